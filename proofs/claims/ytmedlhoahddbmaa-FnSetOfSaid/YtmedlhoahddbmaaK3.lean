/- What these laws reach, joined by a program of this session: contracts (written by that program over the kit's print, or by hand) and plain lemmas. -/
import Derived.Shelf.Strings.Builder1
import Derived.Lib.Builder
import Derived.Lib.UnsafeStr
import Derived.Lib.Walk
import Derived.Laws.Externs
import Derived.BigCall
import Derived.Lib.Bytealg
import Derived.BigGuard
import Derived.Laws.AppendOwn
import Derived.Deep.RegionHeld3
import Derived.Deep.AppendLies
import Derived.Test.YtmedlhoahddbmaaK1
import Derived.Test.YtmedlhoahddbmaaK2
namespace Go.Proofs.Ytmedlhoahddbmaa.P
open Go.RowKit Go.Proofs.YtmedlhoahddbmaaW.PrintWords Go.Proofs.YtmedlhoahddbmaaW.PrintLast Go.Proofs.YtmedlhoahddbmaaW.PrintMore
attribute [local go_sem] max2_int min2_int max_two min_two max_three min_three max_four min_four   -- for this text's walks alone
set_option linter.unusedVariables false
set_option linter.unusedSimpArgs false

/-! ### spec_SetOf: function 6 -/
def spec_SetOf.l0:Nat → List Int → List Bool → Int → Option (ByteArray × Bool)
 | 0,_,_,_=>none
 | k + 1,x0,x4,x5=>if x5 < (x0.length:Int) then (if 0≤x5 then ((spec_l6In.f (rd x0 x5) 0 59).bind fun t279=>(if t279 = true then (if 0≤(rd x0 x5) then (if (rd x0 x5) < (x4.length:Int) then (spec_SetOf.l0 k x0 (x4.set ((rd x0 x5):Int).toNat true) (wrap64 (x5 + 1))) else (none)) else (none)) else (some ((⟨#[]⟩:ByteArray),false)))) else (none)) else ((spec_l1Done.f k x4 (([false]:List Bool))).bind fun bt285=>(some (bt285.1,bt285.2)))
def spec_SetOf.f (k:Nat) (l0:List Int):Option (ByteArray × Bool):=if 60≤281474976710656 then (spec_SetOf.l0 k l0 (List.replicate 60 false) 0) else (none)
theorem spec_SetOf.mono_l:∀ k,(∀ y0 y1 y2,LeO (spec_SetOf.l0 k y0 y1 y2) (spec_SetOf.l0 (k + 1) y0 y1 y2))
 | 0=>fun _ _ _ r h=>by simp [spec_SetOf.l0] at h
 | k + 1=>by
  have ih0:=spec_SetOf.mono_l k
  ·intro y0 y1 y2
   unfold spec_SetOf.l0
   repeat' first
   | (with_reducible exact ih0 _ _ _)
   | (with_reducible exact spec_l1Done.mono _ _ _)
   | (with_reducible exact LeO.refl _)
   | (with_reducible exact LeO.none _)
   | (with_reducible refine LeO.ite ?_ ?_)
   | (with_reducible refine LeO.bind ?_ (fun _=>?_))
   | exact ih0 _ _ _
   | exact spec_l1Done.mono _ _ _
   | exact LeO.none _
   | refine LeO.ite ?_ ?_
   | refine LeO.bind ?_ (fun _=>?_)
theorem spec_SetOf.mono:∀ a0 k,LeO (spec_SetOf.f k a0) (spec_SetOf.f (k + 1) a0):=by
 intro a0 k
 have ih0:=spec_SetOf.mono_l k
 unfold spec_SetOf.f
 repeat' first
   | (with_reducible exact ih0 _ _ _)
   | (with_reducible exact spec_l1Done.mono _ _ _)
   | (with_reducible exact LeO.refl _)
   | (with_reducible exact LeO.none _)
   | (with_reducible refine LeO.ite ?_ ?_)
   | (with_reducible refine LeO.bind ?_ (fun _=>?_))
   | exact ih0 _ _ _
   | exact spec_l1Done.mono _ _ _
   | exact LeO.none _
   | refine LeO.ite ?_ ?_
   | refine LeO.bind ?_ (fun _=>?_)
set_option maxHeartbeats 8000000 in
set_option maxRecDepth 100000 in
theorem spec_SetOf.calls (k:Nat) (A0:Option Addr) (c0:Nat) (l0:List Int) (r1:ByteArray) (r2:Bool) (w:World) (hr0:Kd.C (Kd.int .i64) w A0 l0.length l0) (hc0:l0.length≤c0) (h:spec_SetOf.f k l0 = some (r1,r2)) :
  Calls Try.prog 6 #[.slice A0 l0.length c0] w fun e w'=>e = .returned (.tuple #[.string r1,.bool r2])∧Below w.heap.size w w':=by
 have hu43:=Try.underlying43
 have HR0:=Aside0.mk hr0
 have HC0:=Aside0.mk hc0
 clear hr0 hc0
 have HB:=Aside0.mk (Below.refl w.heap.size w)
 have H:(if 60≤281474976710656 then (spec_SetOf.l0 k l0 (List.replicate 60 false) 0) else (none)) = some (r1,r2):=h
 clear h
 by_cases c2:60≤281474976710656
 ·rw [if_pos c2] at H
  have c2b0:=eq_true c2
  have c2b1:decide (60≤281474976710656) = true:=decide_eq_true c2
  clear c2
  obtain ⟨y275,hy275⟩:∃ y_:List Bool,y_ = (List.replicate 60 false):=⟨_,rfl⟩
  replace H:(spec_SetOf.l0 k l0 y275 0) = some (r1,r2):=by first|(rw [hy275];with_reducible exact H)|(have H2_:=(Option.bind_some _ _).symm.trans H;rw [hy275];with_reducible exact H2_)|(have H2_:=(Option.bind_some _ _).symm.trans H;with_reducible exact H2_)|with_reducible exact H|(rw [hy275];exact H)|exact H
  have Ny275:=Aside0.mk hy275
  clear hy275
  have H':=Aside0.mk H
  clear H
  go_enter Try.func6,Try.ntmps6
  go_wp2_with (first|((with_reducible refine gate_dst (N:=6) rfl ?_);refine Kd.R_make Kd.bool _ 4 rfl (N:=6) rfl 40 _ _ rfl 60 rfl rfl Try.underlying40 (.bool false) 1 info4 rfl (by decide) (by omega) false (ok:=fun _=>True) (okp:=fun _=>True) rfl (fun _ hk=>hk) trivial (by omega) (by omega) (Below.refl _ _) (Nat.le_refl _) ?_;intro v276 w3 ho4 hb hg_ hnew_;clear hg_ hnew_;(first|rw [← Ny275.out] at ho4|(simp only [Int.reduceToNat] at ho4;rw [← Ny275.out] at ho4));have n0_:=Aside0.mk (Kd.R_lower ho4 (below_size (by repeat (first|(with_reducible first|exact HB.out|apply below_alloc|apply pw_below_drewN|apply below_drew1)|exact HB.out))));have n1_:=Aside0.mk (below_step (by repeat (first|(with_reducible first|exact HB.out|apply below_alloc|apply pw_below_drewN|apply below_drew1)|exact HB.out)) hb);clear HB;have HO277:=n0_;have HB:=n1_;clear n0_ n1_;clear hb ho4))
  go_loopg [5] k (fun kq v5 w'=>∃ (x4_1:List Bool) (x5_1:Int),v5 = .int .i64 x5_1∧Aside0 (spec_SetOf.l0 kq l0 x4_1 x5_1 = some (r1,r2))∧Aside0 (kq≤k)∧Aside0 (Kd.R Kd.bool 4 w' w.heap.size (fun _=>True) v276 x4_1)∧Aside0 (Below w.heap.size w w'))
  case atStart=>exact ⟨(y275),(0),(by first|rfl|(simp;done)|(simp [*];done)|(simp [Int.tmod_eq_emod_of_nonneg];done)),H',⟨Nat.le_refl _⟩,⟨by (with_reducible repeat (first|apply Kd.R_alloc|apply Kd.R_drewN|apply Kd.R_drew));exact HO277.out⟩,⟨by repeat (first|(with_reducible first|exact HB.out|apply below_alloc|apply pw_below_drewN|apply below_drew1)|exact HB.out)⟩⟩
  case round =>
   clear H'
   try clear c2
   try clear c2b0
   try clear c2b1
   try clear p2
   obtain ⟨x4_1,x5_1,rfl,HA,HK1,HO_4,HB⟩:=hrel
   cases gk with
   | zero=>exact absurd HA.out (by simp [spec_SetOf.l0])
   | succ k1 =>
    have H:=HA.out
    clear HA
    simp only [spec_SetOf.l0] at H
    by_cases c5:x5_1 < (l0.length:Int)
    ·rw [if_pos c5] at H
     have c5b0:decide (x5_1 < (l0.length:Int)) = true:=decide_eq_true c5
     clear c5
     by_cases c6:0≤x5_1
     ·rw [if_pos c6] at H
      have c6b0:decide (0≤x5_1) = true:=decide_eq_true c6
      clear c6
      replace H:=Option.bind_eq_some_iff.mp H
      obtain ⟨t279,A70,H⟩:=H
      replace H:(if t279 = true then (if 0≤(rd l0 x5_1) then (if (rd l0 x5_1) < (x4_1.length:Int) then (spec_SetOf.l0 k1 l0 (x4_1.set ((rd l0 x5_1):Int).toNat true) (wrap64 (x5_1 + 1))) else (none)) else (none)) else (some ((⟨#[]⟩:ByteArray),false))) = some (r1,r2):=H
      have A7:=Aside0.mk A70
      clear A70
      by_cases c8:t279 = true
      ·subst c8
       have H1:(if 0≤(rd l0 x5_1) then (if (rd l0 x5_1) < (x4_1.length:Int) then (spec_SetOf.l0 k1 l0 (x4_1.set ((rd l0 x5_1):Int).toNat true) (wrap64 (x5_1 + 1))) else (none)) else (none)) = some (r1,r2):=by rw [if_pos rfl] at H;exact H
       clear H
       have H:=H1
       clear H1
       by_cases c9:0≤(rd l0 x5_1)
       ·rw [if_pos c9] at H
        have c9b0:decide (0≤(rd l0 x5_1)) = true:=decide_eq_true c9
        clear c9
        by_cases c10:(rd l0 x5_1) < (x4_1.length:Int)
        ·rw [if_pos c10] at H
         have c10b0:decide ((rd l0 x5_1) < (x4_1.length:Int)) = true:=decide_eq_true c10
         clear c10
         obtain ⟨y281,hy281⟩:∃ y_:List Bool,y_ = (x4_1.set ((rd l0 x5_1):Int).toNat true):=⟨_,rfl⟩
         replace H:(spec_SetOf.l0 k1 l0 y281 (wrap64 (x5_1 + 1))) = some (r1,r2):=by first|(rw [hy281];with_reducible exact H)|(have H2_:=(Option.bind_some _ _).symm.trans H;rw [hy281];with_reducible exact H2_)|(have H2_:=(Option.bind_some _ _).symm.trans H;with_reducible exact H2_)|with_reducible exact H|(rw [hy281];exact H)|exact H
         have Ny281:=Aside0.mk hy281
         clear hy281
         have H':=Aside0.mk H
         clear H
         have p278:0≤(x5_1:Int):=of_decide_eq_true (by first|(with_reducible assumption)|assumption)
         have q278:x5_1 < (l0.length:Int):=of_decide_eq_true (by first|(with_reducible assumption)|assumption)
         obtain ⟨ad278,e278,hx278_0⟩:=Kd.at_int HR0.out x5_1 p278 q278
         cases e278
         replace hx278_0:=(HB.out.cell (World.block_lt_of_cell? w _ hx278_0)).trans hx278_0
         replace p278:=eq_true p278
         replace q278:=eq_true q278
         go_wp2_with (first|((with_reducible refine gate_callee (f:=18) rfl ?_);refine goesL_ (some 17) rfl rfl Try.func18 (by kernel_rfl) rfl #[.int .i64 (rd l0 x5_1),.int .i64 0,.int .i64 59] rfl (by (try simp only [List.map_toArray,List.map_cons,List.map_nil]);first|done|rfl|(simp only [List.length_drop,List.length_take];rfl)) ?_;(with_reducible refine (spec_l6In.calls (rd l0 x5_1) 0 59 true _ A7.out).mono ?_);rintro e w' ⟨rfl,⟨nd,rfl⟩⟩;refine ⟨_,rfl,?_⟩;(try (rw [drewN_self wr];generalize hq_:World.drewN wr _ = wr;have n0_:Aside0 (Kd.R Kd.bool 4 wr w.heap.size (fun _=>True) v276 x4_1):=⟨by rw [← hq_];exact (by (with_reducible repeat (first|apply Kd.R_alloc|apply Kd.R_drewN|apply Kd.R_drew));exact HO_4.out)⟩;have n1_:Aside0 (Below w.heap.size w wr):=⟨by rw [← hq_];exact (by repeat (first|(with_reducible first|exact HB.out|apply below_alloc|apply pw_below_drewN|apply below_drew1)|exact HB.out))⟩;clear HO_4 HB hq_;have HO_4:=n0_;have HB:=n1_;clear n0_ n1_));have p280:0≤(x5_1:Int):=of_decide_eq_true (by first|(with_reducible assumption)|assumption);have q280:x5_1 < (l0.length:Int):=of_decide_eq_true (by first|(with_reducible assumption)|assumption);obtain ⟨ad280,e280,hx280_0⟩:=Kd.at_int HR0.out x5_1 p280 q280;obtain rfl:ad278 = ad280:=(by injection e280);replace hx280_0:=(HB.out.cell (World.block_lt_of_cell? w _ hx280_0)).trans hx280_0;replace p280:=eq_true p280;replace q280:=eq_true q280;have p11:0≤((rd l0 x5_1):Int):=of_decide_eq_true (by first|(with_reducible assumption)|assumption);have q11:((rd l0 x5_1):Int) < ((x4_1.length:Int):Int):=of_decide_eq_true (by first|(with_reducible assumption)|assumption);obtain ⟨go11,co11,eo11,gb11,gl11,cl11,HG11⟩:=Kd.R_form HO_4.out (by omega);(first|cases eo11|(injection eo11 with ea_ en_ ec_;(first|subst ea_|(injection ea_ with ea_;subst ea_));subst ec_;clear en_));have GB11:=Aside0.mk gb11;have GG11:=Aside0.mk HG11;clear gb11 gl11 HG11;obtain ⟨hx11_0,hf11_0⟩:=Kd.R_celln false HO_4.out ((rd l0 x5_1):Int) p11 q11;replace p11:=eq_true p11;replace q11:=eq_true q11;obtain ⟨hy12_,hz12_⟩:=Kd.R_celln false HO_4.out ((rd l0 x5_1):Int) (of_decide_eq_true (by first|(with_reducible assumption)|assumption)) (of_decide_eq_true (by first|(with_reducible assumption)|assumption));have HP12:=Kd.R_putg HO_4.out ((rd l0 x5_1):Int) true)|((with_reducible refine gate_store (t:=4) (p:=24) rfl ?_);refine store_event (t:=4) (p:=24) (v:=?vo_w13) (w1:=(wr.setCell ⟨go11,((rd l0 x5_1):Int).toNat,none⟩ (.bool true))) ?hg ?ho ?hn ?hr ?_;(case ho=>rfl);(case hg=>rfl);(case hn=>rfl);(case hr=>first|(go_simp;done)|(go_simp;rfl));intro w13 hw;have hg:wr.grownBy w13 (some go11):=(by rw [hw];exact HP12.2);have hp_:Kd.R Kd.bool 4 w13 w.heap.size (fun _=>True) (.slice (some ⟨go11,0,none⟩) x4_1.length co11) y281:=(by rw [hw,Ny281.out];exact HP12.1);clear HP12;have n0_:=Aside0.mk (hp_);have n1_:=Aside0.mk ((by rw [hw];exact below_set (HB.out) GB11.out:Below w.heap.size w w13));clear HO_4;clear HB;have HO_4:=n0_;have HB:=n1_;clear n0_ n1_;clear hg hw hp_))
         go_roundg k1
         case measure=>have:=HK1.out;omega
         case rel=>exact ⟨(y281),(wrap64 (x5_1 + 1)),(by first|rfl|(simp;done)|(simp [*];done)|(simp [Int.tmod_eq_emod_of_nonneg];done)),H',⟨by have:=HK1.out;omega⟩,⟨by (with_reducible repeat (first|apply Kd.R_alloc|apply Kd.R_drewN|apply Kd.R_drew));exact HO_4.out⟩,⟨by repeat (first|(with_reducible first|exact HB.out|apply below_alloc|apply pw_below_drewN|apply below_drew1)|exact HB.out)⟩⟩
        ·rw [if_neg c10] at H
         exact absurd H (by simp)
       ·rw [if_neg c9] at H
        exact absurd H (by simp)
      ·replace c8:=Bool.eq_false_iff.mpr c8
       subst c8
       have H1:(some ((⟨#[]⟩:ByteArray),false)) = some (r1,r2):=by rw [if_neg (show ¬ (false = true) by decide)] at H;exact H
       clear H
       have H:=H1
       clear H1
       simp only [Option.some.injEq,Prod.mk.injEq] at H
       obtain ⟨rfl,rfl⟩:=H
       have p278:0≤(x5_1:Int):=of_decide_eq_true (by first|(with_reducible assumption)|assumption)
       have q278:x5_1 < (l0.length:Int):=of_decide_eq_true (by first|(with_reducible assumption)|assumption)
       obtain ⟨ad278,e278,hx278_0⟩:=Kd.at_int HR0.out x5_1 p278 q278
       cases e278
       replace hx278_0:=(HB.out.cell (World.block_lt_of_cell? w _ hx278_0)).trans hx278_0
       replace p278:=eq_true p278
       replace q278:=eq_true q278
       go_wp2_with (first|((with_reducible refine gate_callee (f:=18) rfl ?_);refine goesL_ (some 17) rfl rfl Try.func18 (by kernel_rfl) rfl #[.int .i64 (rd l0 x5_1),.int .i64 0,.int .i64 59] rfl (by (try simp only [List.map_toArray,List.map_cons,List.map_nil]);first|done|rfl|(simp only [List.length_drop,List.length_take];rfl)) ?_;(with_reducible refine (spec_l6In.calls (rd l0 x5_1) 0 59 false _ A7.out).mono ?_);rintro e w' ⟨rfl,⟨nd,rfl⟩⟩;refine ⟨_,rfl,?_⟩))
       go_ret2
       exact ⟨by first|rfl|(simp [errW_none,errW_some] <;> rfl)|(simp [*,errW_none,errW_some] <;> rfl)|(simp [errW_none,errW_some];exact ⟨rfl,rfl⟩),by repeat (first|(with_reducible first|exact HB.out|apply below_alloc|apply pw_below_drewN|apply below_drew1)|exact HB.out)⟩
     ·rw [if_neg c6] at H
      exact absurd H (by simp)
    ·rw [if_neg c5] at H
     have c5b0:decide (x5_1 < (l0.length:Int)) = false:=decide_eq_false c5
     clear c5
     obtain ⟨y282,hy282⟩:∃ y_:List Bool,y_ = (([false]:List Bool)):=⟨_,rfl⟩
     replace H:((spec_l1Done.f k1 x4_1 y282).bind fun bt285=>(some (bt285.1,bt285.2))) = some (r1,r2):=by first|(rw [hy282];with_reducible exact H)|(have H2_:=(Option.bind_some _ _).symm.trans H;rw [hy282];with_reducible exact H2_)|(have H2_:=(Option.bind_some _ _).symm.trans H;with_reducible exact H2_)|with_reducible exact H|(rw [hy282];exact H)|exact H
     have Ny282:=Aside0.mk hy282
     clear hy282
     replace H:=Option.bind_eq_some_iff.mp H
     obtain ⟨⟨t285,t286⟩,A140,H⟩:=H
     replace H:(some (t285,t286)) = some (r1,r2):=H
     have A14:=Aside0.mk A140
     clear A140
     simp only [Option.some.injEq,Prod.mk.injEq] at H
     obtain ⟨rfl,rfl⟩:=H
     go_wp2_with (first|((with_reducible refine gate_dst (N:=26) rfl ?_);refine Kd.R_lit Kd.bool _ 4 ?hg (N:=26) ?hd (xs:=([false]:List Bool)) (inner:=[.bool false]) (ok:=fun _=>True) (okp:=fun _=>True) ?hr ?hp (fun _ hk=>hk) trivial (Below.refl _ _) (Nat.le_refl _) (by simp) ?_;(case hd=>rfl);(case hg=>rfl);(case hr=>first|(go_simp;done)|(go_simp;rfl));(case hp=>exact (Reps.one (show Kd.M Kd.bool _ _ _ false [.bool false] from rfl) (Reps.none _ _)));intro v283 w15 ho16 hb hg_ hnew_;clear hg_ hnew_;(first|rw [← Ny282.out] at ho16|(simp only [Int.reduceToNat] at ho16;rw [← Ny282.out] at ho16));have n0_:=Aside0.mk (Kd.R_elder' (by (with_reducible repeat (first|apply Kd.R_alloc|apply Kd.R_drewN|apply Kd.R_drew));exact HO_4.out) (Kd.R_base ho16) hb);have n1_:=Aside0.mk (Kd.R_lower (Kd.R_new' ho16 (Kd.R_lt (by (with_reducible repeat (first|apply Kd.R_alloc|apply Kd.R_drewN|apply Kd.R_drew));exact HO_4.out))) (below_size (by repeat (first|(with_reducible first|exact HB.out|apply below_alloc|apply pw_below_drewN|apply below_drew1)|exact HB.out))));have n2_:=Aside0.mk (below_step (by repeat (first|(with_reducible first|exact HB.out|apply below_alloc|apply pw_below_drewN|apply below_drew1)|exact HB.out)) hb);clear HO_4;clear HB;have HO_4:=n0_;have HO284:=n1_;have HB:=n2_;clear n0_ n1_ n2_;clear hb ho16;obtain ⟨Ao17,co17,eo17⟩:=Kd.R_slice HO284.out;subst eo17;obtain ⟨Ao18,co18,eo18⟩:=Kd.R_slice HO_4.out;subst eo18)|((with_reducible refine gate_callee (f:=19) rfl ?_);refine goesL_ (some 28) rfl rfl Try.func19 (by kernel_rfl) rfl #[.agg #[.slice Ao18 x4_1.length co18,.slice Ao17 y282.length co17]] rfl (by (try simp only [List.map_toArray,List.map_cons,List.map_nil]);first|done|rfl|(simp only [List.length_drop,List.length_take];rfl)) ?_;(with_reducible refine (spec_l1Done.calls k1 _ _ x4_1 _ _ y282 t285 t286 _ ?side1 ?side2 ?side3 ?side4 A14.out).mono ?_);(case side1=>repeat (first|exact (Kd.R_reads' HO_4.out).2.2|(with_reducible refine Kd.C_alloc ?_ _)|(with_reducible refine Kd.C_drewN ?_ _)|(with_reducible refine Kd.C_drew ?_)));(case side2=>exact (Kd.R_reads' HO_4.out).2.1);(case side3=>repeat (first|exact (Kd.R_reads' HO284.out).2.2|(with_reducible refine Kd.C_alloc ?_ _)|(with_reducible refine Kd.C_drewN ?_ _)|(with_reducible refine Kd.C_drew ?_)));(case side4=>exact (Kd.R_reads' HO284.out).2.1);rintro e w19 ⟨rfl,hb⟩;refine ⟨_,rfl,?_⟩;have n0_:=Aside0.mk (Kd.R_below (by (with_reducible repeat (first|apply Kd.R_alloc|apply Kd.R_drewN|apply Kd.R_drew));exact HO_4.out) hb);have n1_:=Aside0.mk (Kd.R_below (by (with_reducible repeat (first|apply Kd.R_alloc|apply Kd.R_drewN|apply Kd.R_drew));exact HO284.out) hb);have n2_:=Aside0.mk (below_step (by repeat (first|(with_reducible first|exact HB.out|apply below_alloc|apply pw_below_drewN|apply below_drew1)|exact HB.out)) hb);clear HO_4;clear HO284;clear HB;have HO_4:=n0_;have HO284:=n1_;have HB:=n2_;clear n0_ n1_ n2_;(try clear hb);(try clear hb2);(try clear hk);(try clear hi)))
     go_ret2
     exact ⟨by first|rfl|(simp [errW_none,errW_some] <;> rfl)|(simp [*,errW_none,errW_some] <;> rfl)|(simp [errW_none,errW_some];exact ⟨rfl,rfl⟩),by repeat (first|(with_reducible first|exact HB.out|apply below_alloc|apply pw_below_drewN|apply below_drew1)|exact HB.out)⟩
 ·rw [if_neg c2] at H
  exact absurd H (by simp)

end Go.Proofs.Ytmedlhoahddbmaa.P

namespace Go.Proofs.Ytmedlhoahddbmaa.P
open Go.RowKit Go.Proofs.YtmedlhoahddbmaaW.PrintWords Go.Proofs.YtmedlhoahddbmaaW.PrintLast Go.Proofs.YtmedlhoahddbmaaW.PrintMore
attribute [local go_sem] max2_int min2_int max_two min_two max_three min_three max_four min_four   -- for this text's walks alone
set_option linter.unusedVariables false
set_option linter.unusedSimpArgs false

/-! ### stringslite_HasSuffix: function 43 -/
def stringslite_HasSuffix.f (a0:ByteArray) (a1:ByteArray):Option (Bool):=if (a0.size:Int) ≥ (a1.size:Int) then (if 0≤(wrap64 ((a0.size:Int) - (a1.size:Int))) then (if (wrap64 ((a0.size:Int) - (a1.size:Int)))≤(a0.size:Int) then (some ((a0.extract ((wrap64 ((a0.size:Int) - (a1.size:Int))):Int).toNat a0.size).toList == a1.toList)) else (none)) else (none)) else (some false)
set_option maxHeartbeats 8000000 in
set_option maxRecDepth 100000 in
theorem stringslite_HasSuffix.calls (a0:ByteArray) (a1:ByteArray) (r:Bool) (w:World) (h:stringslite_HasSuffix.f a0 a1 = some r) :
  Calls Try.prog 43 #[.string a0,.string a1] w fun e w'=>e = .returned (.bool r)∧Drawn0 w w':=by
 have H:(if (a0.size:Int) ≥ (a1.size:Int) then (if 0≤(wrap64 ((a0.size:Int) - (a1.size:Int))) then (if (wrap64 ((a0.size:Int) - (a1.size:Int)))≤(a0.size:Int) then (some ((a0.extract ((wrap64 ((a0.size:Int) - (a1.size:Int))):Int).toNat a0.size).toList == a1.toList)) else (none)) else (none)) else (some false)) = some r:=h
 clear h
 by_cases c3:(a0.size:Int) ≥ (a1.size:Int)
 ·rw [if_pos c3] at H
  have c3b0:decide ((a1.size:Int)≤(a0.size:Int)) = true:=decide_eq_true c3
  have c3b1:decide (a1.size≤a0.size) = true:=decide_eq_true (Int.ofNat_le.mp c3)
  clear c3
  obtain ⟨ji4,hji4⟩:∃ j_:Int,(wrap64 ((a0.size:Int) - (a1.size:Int))) = j_:=⟨_,rfl⟩
  replace H:(if 0≤(ji4) then (if (ji4)≤(a0.size:Int) then (some ((a0.extract ((ji4):Int).toNat a0.size).toList == a1.toList)) else (none)) else (none)) = some r:=by first|(rw [hji4] at H;exact H)|(simp only [hji4] at H ⊢;exact H)
  have hji4w:(IntKind.i64.wrap ((a0.size:Int) - (a1.size:Int))) = ji4:=(i64_w _).trans hji4
  by_cases c5:0≤(ji4)
  ·rw [if_pos c5] at H
   have c5b0:=eq_true c5
   have c5b1:decide (0≤(ji4)) = true:=decide_eq_true c5
   clear c5
   by_cases c6:(ji4)≤(a0.size:Int)
   ·rw [if_pos c6] at H
    have c6b0:=eq_true c6
    have c6b1:decide ((ji4)≤(a0.size:Int)) = true:=decide_eq_true c6
    clear c6
    obtain rfl:=Option.some.inj H
    go_enter Try.func43,Try.ntmps43
    go_wp2
    go_ret
    exact ⟨by first|rfl|(simp;done)|(simp only [← hji4] <;> (first|rfl|simp))|(simp [*];done),by repeat (first|exact Drawn0.refl _|apply Drawn0.step)⟩
   ·rw [if_neg c6] at H
    exact absurd H (by simp)
  ·rw [if_neg c5] at H
   exact absurd H (by simp)
 ·rw [if_neg c3] at H
  have c3b0:decide ((a1.size:Int)≤(a0.size:Int)) = false:=decide_eq_false c3
  have c3b1:decide (a1.size≤a0.size) = false:=decide_eq_false (fun h=>c3 (Int.ofNat_le.mpr h))
  clear c3
  obtain rfl:=Option.some.inj H
  go_enter Try.func43,Try.ntmps43
  go_wp2
  go_ret
  exact ⟨by first|rfl|(simp;done)|(simp [*];done),by repeat (first|exact Drawn0.refl _|apply Drawn0.step)⟩

end Go.Proofs.Ytmedlhoahddbmaa.P

namespace Go.Proofs.Ytmedlhoahddbmaa.P
open Go.RowKit Go.Proofs.YtmedlhoahddbmaaW.PrintWords Go.Proofs.YtmedlhoahddbmaaW.PrintLast Go.Proofs.YtmedlhoahddbmaaW.PrintMore
attribute [local go_sem] max2_int min2_int max_two min_two max_three min_three max_four min_four   -- for this text's walks alone
set_option linter.unusedVariables false
set_option linter.unusedSimpArgs false

/-! ### stringslite_CutSuffix: function 39 -/
def stringslite_CutSuffix.f (a0:ByteArray) (a1:ByteArray):Option (ByteArray × Bool):=(stringslite_HasSuffix.f a0 a1).bind fun t145=>(if t145 = true then (if 0≤(wrap64 ((a0.size:Int) - (a1.size:Int))) then (if (wrap64 ((a0.size:Int) - (a1.size:Int)))≤(a0.size:Int) then (some (a0.extract 0 ((wrap64 ((a0.size:Int) - (a1.size:Int))):Int).toNat,true)) else (none)) else (none)) else (some (a0,false)))
set_option maxHeartbeats 8000000 in
set_option maxRecDepth 100000 in
theorem stringslite_CutSuffix.calls (a0:ByteArray) (a1:ByteArray) (r1:ByteArray) (r2:Bool) (w:World) (h:stringslite_CutSuffix.f a0 a1 = some (r1,r2)) :
  Calls Try.prog 39 #[.string a0,.string a1] w fun e w'=>e = .returned (.tuple #[.string r1,.bool r2])∧Drawn0 w w':=by
 have H:((stringslite_HasSuffix.f a0 a1).bind fun t145=>(if t145 = true then (if 0≤(wrap64 ((a0.size:Int) - (a1.size:Int))) then (if (wrap64 ((a0.size:Int) - (a1.size:Int)))≤(a0.size:Int) then (some (a0.extract 0 ((wrap64 ((a0.size:Int) - (a1.size:Int))):Int).toNat,true)) else (none)) else (none)) else (some (a0,false)))) = some (r1,r2):=h
 clear h
 replace H:=Option.bind_eq_some_iff.mp H
 obtain ⟨t145,A30,H⟩:=H
 replace H:(if t145 = true then (if 0≤(wrap64 ((a0.size:Int) - (a1.size:Int))) then (if (wrap64 ((a0.size:Int) - (a1.size:Int)))≤(a0.size:Int) then (some (a0.extract 0 ((wrap64 ((a0.size:Int) - (a1.size:Int))):Int).toNat,true)) else (none)) else (none)) else (some (a0,false))) = some (r1,r2):=H
 have A3:=Aside0.mk A30
 clear A30
 by_cases c4:t145 = true
 ·subst c4
  have H1:(if 0≤(wrap64 ((a0.size:Int) - (a1.size:Int))) then (if (wrap64 ((a0.size:Int) - (a1.size:Int)))≤(a0.size:Int) then (some (a0.extract 0 ((wrap64 ((a0.size:Int) - (a1.size:Int))):Int).toNat,true)) else (none)) else (none)) = some (r1,r2):=by rw [if_pos rfl] at H;exact H
  clear H
  have H:=H1
  clear H1
  obtain ⟨ji5,hji5⟩:∃ j_:Int,(wrap64 ((a0.size:Int) - (a1.size:Int))) = j_:=⟨_,rfl⟩
  replace H:(if 0≤(ji5) then (if (ji5)≤(a0.size:Int) then (some (a0.extract 0 ((ji5):Int).toNat,true)) else (none)) else (none)) = some (r1,r2):=by first|(rw [hji5] at H;exact H)|(simp only [hji5] at H ⊢;exact H)
  (try rw [hji5] at A3)
  have hji5w:(IntKind.i64.wrap ((a0.size:Int) - (a1.size:Int))) = ji5:=(i64_w _).trans hji5
  by_cases c6:0≤(ji5)
  ·rw [if_pos c6] at H
   have c6b0:=eq_true c6
   have c6b1:decide (0≤(ji5)) = true:=decide_eq_true c6
   clear c6
   by_cases c7:(ji5)≤(a0.size:Int)
   ·rw [if_pos c7] at H
    have c7b0:=eq_true c7
    have c7b1:decide ((ji5)≤(a0.size:Int)) = true:=decide_eq_true c7
    clear c7
    simp only [Option.some.injEq,Prod.mk.injEq] at H
    obtain ⟨rfl,rfl⟩:=H
    go_enter Try.func39,Try.ntmps39
    go_wp2_with (first|((with_reducible refine gate_callee (f:=43) rfl ?_);refine goesL_ (some 8) rfl rfl Try.func43 (by kernel_rfl) rfl #[.string a0,.string a1] rfl (by (try simp only [List.map_toArray,List.map_cons,List.map_nil]);first|done|rfl|(simp only [List.length_drop,List.length_take];rfl)) ?_;(with_reducible refine (stringslite_HasSuffix.calls a0 a1 true _ A3.out).mono ?_);rintro e w' ⟨rfl,⟨nd,rfl⟩⟩;refine ⟨_,rfl,?_⟩))
    go_ret2
    exact ⟨by first|rfl|(simp;done)|(simp only [← hji5] <;> (first|rfl|simp))|(simp [*];done),by repeat (first|exact Drawn0.refl _|apply Drawn0.step)⟩
   ·rw [if_neg c7] at H
    exact absurd H (by simp)
  ·rw [if_neg c6] at H
   exact absurd H (by simp)
 ·replace c4:=Bool.eq_false_iff.mpr c4
  subst c4
  have H1:(some (a0,false)) = some (r1,r2):=by rw [if_neg (show ¬ (false = true) by decide)] at H;exact H
  clear H
  have H:=H1
  clear H1
  simp only [Option.some.injEq,Prod.mk.injEq] at H
  obtain ⟨rfl,rfl⟩:=H
  go_enter Try.func39,Try.ntmps39
  go_wp2_with (first|((with_reducible refine gate_callee (f:=43) rfl ?_);refine goesL_ (some 8) rfl rfl Try.func43 (by kernel_rfl) rfl #[.string a0,.string a1] rfl (by (try simp only [List.map_toArray,List.map_cons,List.map_nil]);first|done|rfl|(simp only [List.length_drop,List.length_take];rfl)) ?_;(with_reducible refine (stringslite_HasSuffix.calls a0 a1 false _ A3.out).mono ?_);rintro e w' ⟨rfl,⟨nd,rfl⟩⟩;refine ⟨_,rfl,?_⟩))
  go_ret2
  exact ⟨by first|rfl|(simp;done)|(simp [*];done),by repeat (first|exact Drawn0.refl _|apply Drawn0.step)⟩

end Go.Proofs.Ytmedlhoahddbmaa.P

namespace Go.Proofs.Ytmedlhoahddbmaa.P
open Go.RowKit Go.Proofs.YtmedlhoahddbmaaW.PrintWords Go.Proofs.YtmedlhoahddbmaaW.PrintLast Go.Proofs.YtmedlhoahddbmaaW.PrintMore
attribute [local go_sem] max2_int min2_int max_two min_two max_three min_three max_four min_four   -- for this text's walks alone
set_option linter.unusedVariables false
set_option linter.unusedSimpArgs false

/-! ### strings_CutSuffix: function 31 -/
def strings_CutSuffix.f (a0:ByteArray) (a1:ByteArray):Option (ByteArray × Bool):=(stringslite_CutSuffix.f a0 a1).bind fun bt146=>(some (bt146.1,bt146.2))
set_option maxHeartbeats 8000000 in
set_option maxRecDepth 100000 in
theorem strings_CutSuffix.calls (a0:ByteArray) (a1:ByteArray) (r1:ByteArray) (r2:Bool) (w:World) (h:strings_CutSuffix.f a0 a1 = some (r1,r2)) :
  Calls Try.prog 31 #[.string a0,.string a1] w fun e w'=>e = .returned (.tuple #[.string r1,.bool r2])∧Drawn0 w w':=by
 have H:((stringslite_CutSuffix.f a0 a1).bind fun bt146=>(some (bt146.1,bt146.2))) = some (r1,r2):=h
 clear h
 replace H:=Option.bind_eq_some_iff.mp H
 obtain ⟨⟨t146,t147⟩,A30,H⟩:=H
 replace H:(some (t146,t147)) = some (r1,r2):=H
 have A3:=Aside0.mk A30
 clear A30
 simp only [Option.some.injEq,Prod.mk.injEq] at H
 obtain ⟨rfl,rfl⟩:=H
 go_enter Try.func31,Try.ntmps31
 go_wp2_with (first|((with_reducible refine gate_callee (f:=39) rfl ?_);refine goesL_ (some 8) rfl rfl Try.func39 (by kernel_rfl) rfl #[.string a0,.string a1] rfl (by (try simp only [List.map_toArray,List.map_cons,List.map_nil]);first|done|rfl|(simp only [List.length_drop,List.length_take];rfl)) ?_;(with_reducible refine (stringslite_CutSuffix.calls a0 a1 t146 t147 _ A3.out).mono ?_);rintro e w' ⟨rfl,⟨nd,rfl⟩⟩;refine ⟨_,rfl,?_⟩))
 go_ret2
 exact ⟨by first|rfl|(simp;done)|(simp [*];done),by repeat (first|exact Drawn0.refl _|apply Drawn0.step)⟩

end Go.Proofs.Ytmedlhoahddbmaa.P

-- The plain words of texts of signs.
namespace Go.Proofs.Ytmedlhoahddbmaa.P
open Go.RowKit Go.Proofs.YtmedlhoahddbmaaW.PrintWords Go.Proofs.YtmedlhoahddbmaaW.PrintLast Go.Proofs.YtmedlhoahddbmaaW.PrintMore
set_option linter.unusedVariables false
set_option linter.unusedSimpArgs false
theorem w64 {x : Int} (h0 : -9223372036854775808 ≤ x) (h1 : x ≤ 9223372036854775807) : wrap64 x = x := by unfold wrap64; omega
theorem wsucc {i : Nat} (h : i ≤ 4611686018427387904) : wrap64 ((i : Int) + 1) = ((i + 1 : Nat) : Int) := by rw [w64 (by omega) (by omega)]; omega
theorem wadd {i j : Nat} (h : i + j ≤ 4611686018427387904) : wrap64 ((i : Int) + (j : Int)) = ((i + j : Nat) : Int) := by rw [w64 (by omega) (by omega)]; omega
theorem wsub {i j : Nat} (h : j ≤ i) (h2 : i ≤ 4611686018427387904) : wrap64 ((i : Int) - (j : Int)) = ((i - j : Nat) : Int) := by rw [w64 (by omega) (by omega)]; omega
theorem wpred {i : Nat} (h : 1 ≤ i) (h2 : i ≤ 4611686018427387904) : wrap64 ((i : Int) - 1) = ((i - 1 : Nat) : Int) := by rw [w64 (by omega) (by omega)]; omega
theorem wmul {i j : Nat} (h : i * j ≤ 4611686018427387904) : wrap64 ((i : Int) * (j : Int)) = ((i * j : Nat) : Int) := by
  have e : (i : Int) * (j : Int) = ((i * j : Nat) : Int) := (Int.natCast_mul i j).symm
  rw [e, w64 (by omega) (by omega)]
theorem tmod_nat (i j : Nat) : Int.tmod (i : Int) (j : Int) = ((i % j : Nat) : Int) := by rw [Int.tmod_eq_emod_of_nonneg (by omega)]; rfl
theorem tdiv_nat (i j : Nat) : Int.tdiv (i : Int) (j : Int) = ((i / j : Nat) : Int) := by rw [Int.tdiv_eq_ediv_of_nonneg (by omega)]; rfl
theorem rdOf_nat (l : List Bool) (i : Nat) : rdOf false l (i : Int) = l.getD i false := by simp [rdOf]
/-- The signs that a text of bytes tells. -/
def bitsL : List UInt8 → Option (List Bool)
  | [] => some []
  | c :: cs => if c = 48 then (bitsL cs).map (false :: ·) else if c = 49 then (bitsL cs).map (true :: ·) else none

def chrs (s : ByteArray) : List UInt8 := s.data.toList
theorem chrs_length (s : ByteArray) : (chrs s).length = s.size := by simp [chrs]
theorem bt_chr (s : ByteArray) {i : Nat} (h : i < s.size) : bt s (i : Int) = (((chrs s)[i]'(by rw [chrs_length]; exact h)).toNat : Int) := by
  unfold bt
  rw [dif_pos (by simpa using h)]
  simp [chrs, ByteArray.getElem_eq_getElem_data]
theorem u8_eq {c : UInt8} {n : Nat} (hn : n < 256) : ((c.toNat : Int) = (n : Int)) ↔ c = UInt8.ofNat n := by
  constructor
  · intro h
    apply UInt8.toNat_inj.1
    rw [UInt8.toNat_ofNat_of_lt' hn]; omega
  · rintro rfl
    rw [UInt8.toNat_ofNat_of_lt' hn]

theorem chrs_extract (s : ByteArray) (a b : Nat) : chrs (s.extract a b) = ((chrs s).take b).drop a := by
  simp [chrs, ByteArray.data_extract, List.drop_take]
theorem chrs_inj {s t : ByteArray} (h : chrs s = chrs t) : s = t := by
  cases s; cases t; simp only [chrs] at h; congr 1; exact Array.toList_inj.1 h
theorem bt_eq (s : ByteArray) {i : Nat} (h : i < s.size) (n : Nat) (hn : n < 256) : (bt s (i : Int) = (n : Int)) ↔ (chrs s)[i]'(by rw [chrs_length]; exact h) = UInt8.ofNat n := by
  rw [bt_chr s h]; exact u8_eq hn
theorem bt_eq' (s : ByteArray) {i : Nat} (h : i < s.size) (n : Nat) (hn : n < 256) : (bt s (i : Int) = (n : Int)) ↔ (chrs s)[i]? = some (UInt8.ofNat n) := by
  rw [bt_eq s h n hn, List.getElem?_eq_getElem (by rw [chrs_length]; exact h)]; simp

/-- A sign as a byte. -/
def sgn (b : Bool) : UInt8 := if b then 49 else 48
/-- The text of a tail and a ring. -/
def textOf (t r : List Bool) : ByteArray := ⟨(t.map sgn ++ [40] ++ r.map sgn ++ [41]).toArray⟩
theorem chrs_textOf (t r : List Bool) : chrs (textOf t r) = t.map sgn ++ [40] ++ r.map sgn ++ [41] := rfl
def sgnI (b : Bool) : Int := if b then 49 else 48
theorem drop_getD {l : List Bool} {i : Nat} (h : i < l.length) : l.drop i = l.getD i false :: l.drop (i + 1) := by
  rw [List.drop_eq_getElem_cons h]; simp [List.getD_eq_getElem?_getD, h]
theorem drawn0_below {w w1 : World} (h : Drawn0 w w1) : Below w.heap.size w w1 := by
  obtain ⟨q, rfl⟩ := h
  exact pw_below_drewN (Below.refl _ _) q

end Go.Proofs.Ytmedlhoahddbmaa.P

-- impl.told writes signs as a text (a strings.Builder of its own).
namespace Go.Proofs.Ytmedlhoahddbmaa.P
open Go.RowKit Go.Proofs.YtmedlhoahddbmaaW.PrintWords Go.Proofs.YtmedlhoahddbmaaW.PrintLast Go.Proofs.YtmedlhoahddbmaaW.PrintMore
set_option linter.unusedVariables false
set_option linter.unusedSimpArgs false

def impl_told.f (l0 : List Bool) : Option ByteArray := if l0.length ≤ 70368744177664 then some ⟨(l0.map sgn).toArray⟩ else none

theorem builder_info : (Try.prog.info? 70).map (·.size) = some 2 := by kernel_rfl
theorem builder_lies : liesAt Try.prog Try.prog.depth 70 (2 / Try.prog.cellsOf 70) 0 70 1 = true := by kernel_rfl

set_option maxHeartbeats 4000000 in
set_option maxRecDepth 100000 in
theorem builder_copyCheck_used (b : Nat) (w : World) (h0 : w.cell? ⟨b, 0, none⟩ = some (.pointer (some ⟨b, 0, none⟩))) :
    Calls Try.prog 44 #[.pointer (some ⟨b, 0, none⟩)] w fun e w' => e = .returned (.tuple #[]) ∧ w' = w := by
  obtain ⟨j, hj, _⟩ := Option.map_eq_some_iff.1 builder_info
  go_enter Try.func44, Try.ntmps44
  go_wp2
  rw [Lib.run_neq_ptr_same w _ Try.underlying68 hj]
  go_wp2
  go_end0
  exact ⟨rfl, rfl⟩

set_option maxHeartbeats 4000000 in
set_option maxRecDepth 100000 in
theorem builder_copyCheck_fresh (b : Nat) (w : World) (h0 : w.cell? ⟨b, 0, none⟩ = some (.pointer none)) (hsh : w.shape? b = some (70, 2)) (hfz : w.frozen? ⟨b, 0, none⟩ = false) :
    Calls Try.prog 44 #[.pointer (some ⟨b, 0, none⟩)] w fun e w' => e = .returned (.tuple #[]) ∧ w' = w.setCell ⟨b, 0, none⟩ (.pointer (some ⟨b, 0, none⟩)) := by
  obtain ⟨j, hj, hjs⟩ := Option.map_eq_some_iff.1 builder_info
  go_enter Try.func44, Try.ntmps44
  go_wp2
  rw [Lib.run_to_unsafe w ⟨b, 0, none⟩ Try.underlying68 Try.underlying80 hj (by rw [hjs]; decide) hsh (Nat.zero_lt_succ 1)]
  simp only [Result.andThen]
  rw [Oper.upon_value]
  go_wp2
  rw [run_callFunc_extern Try.func49 (by kernel_rfl) (by kernel_rfl) (by kernel_rfl) (e := Extern.AbiNoEscape.same) (by kernel_rfl)]
  rw [Lib.run_noEscape]
  simp only [Result.andThen]
  rw [Oper.upon_value]
  go_wp2
  rw [Lib.run_from_unsafe w ⟨b, 0, none⟩ Try.underlying80 Try.underlying68 hj hsh builder_lies]
  simp only [Result.andThen]
  rw [Oper.upon_value]
  go_wp2
  go_end0
  exact ⟨rfl, rfl⟩

theorem builder_copyCheck (B b : Nat) (bs : List Value) (w : World) (h : Lib.IsBuilder 70 5 B b bs w) :
    Calls Try.prog 44 #[.pointer (some ⟨b, 0, none⟩)] w fun e w' => e = .returned (.tuple #[]) ∧ (Lib.BuilderAt 70 5 B b (.pointer (some ⟨b, 0, none⟩)) bs w' ∧ Below B w w') := by
  rcases h with h | h
  · refine (builder_copyCheck_fresh b w h.cell0 h.shape h.frozen0).mono ?_
    rintro e w' ⟨rfl, rfl⟩
    exact ⟨rfl, h.used _, (Below.refl B w).setCell (p := ⟨b, 0, none⟩) h.1 _⟩
  · refine (builder_copyCheck_used b w h.cell0).mono ?_
    rintro e w' ⟨rfl, rfl⟩
    exact ⟨rfl, h, Below.refl B _⟩

theorem byte_info : (Try.prog.info? 5).map (fun i => (i.zero, i.size, i.bytes)) = some (some (.int .u8 0), 1, 1) := by kernel_rfl

set_option maxHeartbeats 4000000 in
set_option maxRecDepth 100000 in
theorem builder_WriteByte (B b : Nat) (bs : List Value) (c : Int) (w : World) (h : Lib.IsBuilder 70 5 B b bs w) (hlen : bs.length + 1 ≤ 140737488355328) (hBw : B ≤ w.heap.size) :
    Calls Try.prog 40 #[.pointer (some ⟨b, 0, none⟩), .int .u8 c] w fun e w' => e = .returned .nilIface ∧ (Lib.BuilderAt 70 5 B b (.pointer (some ⟨b, 0, none⟩)) (bs ++ [.int .u8 c]) w' ∧ Below B w w') := by
  obtain ⟨i0, hi, hz0, hz1, hz2⟩ := info_parts byte_info
  go_enter Try.func40, Try.ntmps40
  go_wp2_with (go_at_call 44; refine (builder_copyCheck B b bs _ h).mono ?_)
  rintro e w1 ⟨rfl, h1, hb1⟩
  obtain ⟨hB, v, hbk, hown, hne⟩ := h1
  have c0 : w1.cell? ⟨b, 0, none⟩ = some (.pointer (some ⟨b, 0, none⟩)) := by rw [Lib.cell_of_heap hbk]; rfl
  have c1 : w1.cell? ⟨b, 1, none⟩ = some v := by rw [Lib.cell_of_heap hbk]; rfl
  go_wp2_with (at_builtin; refine wpList_append_own _ rfl _ _ 22 rfl B 5 i0 (.int .u8 0) 1 1 Try.underlying22 hi hz0 hz1 hz2 rfl (by decide) _ _ _ rfl (hown.alloc _) ⟨w1.heap.size, 0, none⟩ 1 1 [.int .u8 c] rfl rfl ?c1 ?c2 ?c3 ?c4 ?c5 ?_)
  case c1 =>
    intro j u hj
    match j, hj with
    | 0, hj => simp at hj; subst hj; simp [Addr.add]
  case c2 => intro u hu; simp at hu; subst hu; rfl
  case c3 => unfold maxLen; omega
  case c4 => omega
  case c5 => have := hb1.size; simp; omega
  intro v' w2 hown' hgrow _
  have hlt : b < w1.heap.size := by
    rcases Nat.lt_or_ge b w1.heap.size with h' | h'
    · exact h'
    · simp [Array.getElem?_eq_none h'] at hbk
  have hb2 : w2.heap[b]? = some (.cells #[.pointer (some ⟨b, 0, none⟩), v] 70 (0, 0)) := by
    rw [hgrow.block b (by simp; omega) (fun e => hne e.symm), Lib.alloc_old w1 _ b hlt]
    exact hbk
  have d0 : w2.cell? ⟨b, 0, none⟩ = some (.pointer (some ⟨b, 0, none⟩)) := by rw [Lib.cell_of_heap hb2]; rfl
  have d1 : w2.cell? ⟨b, 1, none⟩ = some v := by rw [Lib.cell_of_heap hb2]; rfl
  have f1 : w2.frozen? ⟨b, 1, none⟩ = false := Lib.frozen_of_heap hb2 1
  obtain ⟨g, cap, rfl⟩ : ∃ g cap, v' = .slice (some ⟨g, 0, none⟩) (bs.length + 1) cap := by
    rcases hown'.2 with ⟨_, h0⟩ | ⟨g, cap, cur, hv, _⟩
    · omega
    · exact ⟨g, cap, hv⟩
  go_wp2
  go_ret
  refine ⟨rfl, ?_, ?_⟩
  · exact Lib.BuilderAt.put (T := 70) (e := 5) hB hb2 (bs' := bs ++ [.int .u8 c]) (by simpa using hown') (by decide)
  · exact ((hb1.alloc (by have := hb1.size; omega) _).grown hgrow (by have := hb1.size; simp; omega) (fun k hk => (hown.lt k hk).1)).setCell (p := ⟨b, 1, none⟩) hB _

theorem reads_bool {w : World} {A : Option Addr} {n : Nat} {xs : List Bool} (h : Kd.C Kd.bool w A n xs) (i : Nat) (hi : i < n) : ∃ ad, A = some ad ∧ w.cell? (ad.add i) = some (.bool (xs.getD i false)) := by
  have h2 := Kd.reads_of_C (d := false) (h1 := fun _ => rfl) h
  obtain ⟨ad, e, hc⟩ := h2.2.2 (by omega)
  exact ⟨ad, e, hc i hi⟩

theorem byteCells_sgn (l : List Bool) : Lib.byteCells (l.map sgn) = l.map fun b => Value.int .u8 (if b then 49 else 48) := by
  simp only [Lib.byteCells, List.map_map]
  apply List.map_congr_left
  intro b _
  cases b <;> rfl

theorem take_cells {l : List Bool} {k : Nat} {b : Bool} (h : k < l.length) (hb : l.getD k false = b) : Lib.byteCells ((l.take (k + 1)).map sgn) = Lib.byteCells ((l.take k).map sgn) ++ [.int .u8 (if b then 49 else 48)] := by
  have e : l[k] = b := by rw [← hb, List.getD_eq_getElem?_getD, List.getElem?_eq_getElem h]; rfl
  rw [List.take_succ_eq_append_getElem h, List.map_append, e]
  simp only [Lib.byteCells, List.map_append, List.map_cons, List.map_nil]
  cases b <;> rfl

set_option maxHeartbeats 8000000 in
set_option maxRecDepth 100000 in
theorem impl_told.calls (A0 : Option Addr) (c0 : Nat) (l0 : List Bool) (r : ByteArray) (w : World) (hr0 : Kd.C Kd.bool w A0 l0.length l0) (hc0 : l0.length ≤ c0) (h : impl_told.f l0 = some r) :
    Calls Try.prog 36 #[.slice A0 l0.length c0] w fun e w' => e = .returned (.string r) ∧ Below w.heap.size w w' := by
  have hlen : l0.length ≤ 70368744177664 := by
    unfold impl_told.f at h
    split at h
    · assumption
    · cases h
  have hr : (⟨(l0.map sgn).toArray⟩ : ByteArray) = r := by
    unfold impl_told.f at h
    rw [if_pos hlen] at h
    injection h
  have HR := Aside0.mk hr0
  have HX := Aside0.mk hr
  have HL := Aside0.mk hlen
  clear hr0 h hc0 hr
  go_enter Try.func36, Try.ntmps36
  go_wp2
  go_loopg [8] l0.length (fun gg s8 wr => ∃ k : Nat, k ≤ l0.length ∧ l0.length - k ≤ gg ∧ s8 = .int .i64 k ∧ Aside0 (Lib.IsBuilder 70 5 w.heap.size w.heap.size (Lib.byteCells ((l0.take k).map sgn)) wr) ∧ Aside0 (Below w.heap.size w wr))
  case atStart =>
    refine ⟨0, Nat.zero_le _, by omega, rfl, ⟨.inl ⟨Nat.le_refl _, .slice none 0 0, ?_, ?_, ?_⟩⟩, ⟨below_alloc (Below.refl _ _) _⟩⟩
    · exact heap_alloc_new _ _
    · exact World.ownsRow_nil _ _ _ _
    · simp [Value.ownBlock]
  case round =>
    obtain ⟨k, hk, hgg, rfl, HI, HB⟩ := hrel
    by_cases hlt : k < l0.length
    · obtain ⟨ad, rfl, hcell⟩ := reads_bool (Kd.C_below HR.out HB.out) k hlt
      have hw := builder_WriteByte w.heap.size w.heap.size _ (if l0.getD k false then 49 else 48) wr HI.out (by rw [Lib.byteCells_length]; simp; have := HL.out; omega) HB.out.size
      have hB := HB
      clear HB HI
      cases hv : l0.getD k false with
      | true =>
        rw [hv] at hcell hw
        simp only [if_true] at hw
        have HV := Aside0.mk hv
        clear hv
        go_wp2_with (go_at_call 40; refine hw.mono ?_; rintro e w1 ⟨rfl, hi, hb⟩)
        go_roundg (l0.length - (k + 1))
        case measure => omega
        case rel =>
          refine ⟨k + 1, by omega, by omega, by go_num, ⟨.inr ?_⟩, ⟨hB.out.trans hb⟩⟩
          rw [take_cells hlt HV.out]
          exact hi
      | false =>
        rw [hv] at hcell hw
        simp only [Bool.false_eq_true, if_false] at hw
        have HV := Aside0.mk hv
        clear hv
        go_wp2_with (go_at_call 40; refine hw.mono ?_; rintro e w1 ⟨rfl, hi, hb⟩)
        go_roundg (l0.length - (k + 1))
        case measure => omega
        case rel =>
          refine ⟨k + 1, by omega, by omega, by go_num, ⟨.inr ?_⟩, ⟨hB.out.trans hb⟩⟩
          rw [take_cells hlt HV.out]
          exact hi
    · have e : l0.take k = l0 := List.take_of_length_le (by omega)
      rw [e] at HI
      have hs := Try.Builder_String_any w.heap.size w.heap.size (l0.map sgn) wr HI.out HB.out.size
      rw [HX.out] at hs
      have hB := HB
      clear HB HI HR e
      go_wp2_with (go_at_call 41; refine hs.mono ?_; rintro e w1 ⟨rfl, hb⟩)
      go_ret
      exact ⟨rfl, hB.out.trans hb⟩
end Go.Proofs.Ytmedlhoahddbmaa.P

-- stringslite.Index at a separator of one byte: the place of that byte.
namespace Go.Proofs.Ytmedlhoahddbmaa.P
open Go.RowKit Go.Proofs.YtmedlhoahddbmaaW.PrintWords Go.Proofs.YtmedlhoahddbmaaW.PrintLast Go.Proofs.YtmedlhoahddbmaaW.PrintMore
set_option linter.unusedVariables false
set_option linter.unusedSimpArgs false

def stringslite_Index.f (a0 a1 : ByteArray) : Option Int := if a1.size = 1 then some (if (chrs a0).findIdx (· == (chrs a1).headD 0) < a0.size then (((chrs a0).findIdx (· == (chrs a1).headD 0) : Nat) : Int) else -1) else none

theorem indexByte_find (c : UInt8) : ∀ l : List UInt8, Lib.indexByte l c = if l.findIdx (· == c) < l.length then ((l.findIdx (· == c) : Nat) : Int) else -1
  | [] => rfl
  | b :: l => by
    simp only [Lib.indexByte, List.findIdx_cons, List.length_cons]
    rw [indexByte_find c l]
    have hle := l.findIdx_le_length (p := (· == c))
    generalize l.findIdx (· == c) = p at hle ⊢
    by_cases h : (b == c) = true
    · simp [h]
    · simp only [h, Bool.false_eq_true, if_false, cond_false]
      by_cases h2 : p < l.length
      · rw [if_pos h2, if_neg (by simp), if_pos (by omega)]; omega
      · rw [if_neg h2, if_pos (by decide), if_neg (by omega)]

set_option maxHeartbeats 4000000 in
set_option maxRecDepth 100000 in
theorem stringslite_IndexByte.calls (s : ByteArray) (c : Int) (w : World) :
    Calls Try.prog 45 #[.string s, .int .u8 c] w fun e w' => e = .returned (.int .i64 (Lib.indexByte s.data.toList c.toNat.toUInt8)) ∧ w' = w := by
  go_enter Try.func45, Try.ntmps45
  go_wp2
  rw [run_callFunc_extern Try.func50 (by kernel_rfl) (by kernel_rfl) (by kernel_rfl) (e := Extern.BytealgIndexByte.indexByte) (by kernel_rfl), Lib.run_indexByteString]
  simp only [Result.andThen]
  rw [Oper.upon_value]
  go_wp2
  go_ret
  exact ⟨rfl, rfl⟩

set_option maxHeartbeats 4000000 in
set_option maxRecDepth 100000 in
theorem stringslite_Index.one (a0 : ByteArray) (c : UInt8) (w : World) :
    Calls Try.prog 42 #[.string a0, .string ⟨#[c]⟩] w fun e w' => e = .returned (.int .i64 (Lib.indexByte a0.data.toList c)) ∧ w' = w := by
  by_cases hc : ([c] == a0.toList) = true
  · go_enter Try.func42, Try.ntmps42
    go_wp2
    go_ret
    refine ⟨?_, rfl⟩
    have e : a0.data.toList = [c] := by rw [← ByteArray.toList_eq]; exact (beq_iff_eq.1 hc).symm
    rw [e]; simp [Lib.indexByte]
  · replace hc : ([c] == a0.toList) = false := by simpa using hc
    go_enter Try.func42, Try.ntmps42
    go_wp2_with (go_at_call 45; refine (stringslite_IndexByte.calls _ _ _).mono ?_; rintro e w' ⟨rfl, rfl⟩)
    go_ret
    exact ⟨by simp; rfl, rfl⟩

theorem stringslite_Index.calls (a0 : ByteArray) (a1 : ByteArray) (r : Int) (w : World) (h : stringslite_Index.f a0 a1 = some r) : Calls Try.prog 42 #[.string a0, .string a1] w fun e w' => e = .returned (.int .i64 r) ∧ Drawn0 w w' := by
  unfold stringslite_Index.f at h
  by_cases h1 : a1.size = 1
  · rw [if_pos h1] at h
    obtain ⟨c, rfl⟩ : ∃ c, a1 = ⟨#[c]⟩ := by
      cases a1 with
      | mk d =>
        have : d.size = 1 := h1
        obtain ⟨c, rfl⟩ := Array.size_eq_one_iff.1 this
        exact ⟨c, rfl⟩
    have e : Lib.indexByte a0.data.toList c = r := by
      rw [indexByte_find]
      injection h
    refine (stringslite_Index.one a0 c w).mono ?_
    rintro e' w' ⟨rfl, rfl⟩
    exact ⟨by rw [e], ⟨0, rfl⟩⟩
  · rw [if_neg h1] at h; cases h
end Go.Proofs.Ytmedlhoahddbmaa.P

namespace Go.Proofs.Ytmedlhoahddbmaa.P
open Go.RowKit Go.Proofs.YtmedlhoahddbmaaW.PrintWords Go.Proofs.YtmedlhoahddbmaaW.PrintLast Go.Proofs.YtmedlhoahddbmaaW.PrintMore
attribute [local go_sem] max2_int min2_int max_two min_two max_three min_three max_four min_four   -- for this text's walks alone
set_option linter.unusedVariables false
set_option linter.unusedSimpArgs false

/-! ### impl_set_text: function 26 -/
def impl_set_text.j0:Nat → Bool → List Bool → List Bool → Option (ByteArray × Bool)
 | 0,_,_,_=>none
 | k + 1,x13,x204000,x204001=>if x13 = true then (some ((⟨#[]⟩:ByteArray),false)) else ((impl_told.f x204000).bind fun t204=>(if t204.size + 1≤9223372036854775807 then ((impl_told.f x204001).bind fun t205=>(if t204.size + 1 + t205.size≤9223372036854775807 then (if t204.size + 1 + t205.size + 1≤9223372036854775807 then (some (((t204 ++ (⟨#[40]⟩:ByteArray)) ++ t205) ++ (⟨#[41]⟩:ByteArray),true)) else (none)) else (none))) else (none)))
def impl_set_text.f (k:Nat) (l0_0:List Bool) (l0_1:List Bool):Option (ByteArray × Bool):=if (l0_0.length:Int) > 60 then (impl_set_text.j0 k true l0_0 l0_1) else (impl_set_text.j0 k (decide ((l0_1.length:Int) > 60)) l0_0 l0_1)
theorem impl_set_text.mono_l:∀ k,(∀ y0 y1 y2,LeO (impl_set_text.j0 k y0 y1 y2) (impl_set_text.j0 (k + 1) y0 y1 y2))
 | 0=>fun _ _ _ r h=>by simp [impl_set_text.j0] at h
 | k + 1=>by
  have ih0:=impl_set_text.mono_l k
  ·intro y0 y1 y2
   unfold impl_set_text.j0
   repeat' first
   | (with_reducible exact ih0 _ _ _)
   | (with_reducible exact LeO.refl _)
   | (with_reducible exact LeO.none _)
   | (with_reducible refine LeO.ite ?_ ?_)
   | (with_reducible refine LeO.bind ?_ (fun _=>?_))
   | exact ih0 _ _ _
   | exact LeO.none _
   | refine LeO.ite ?_ ?_
   | refine LeO.bind ?_ (fun _=>?_)
theorem impl_set_text.mono:∀ a0 a1 k,LeO (impl_set_text.f k a0 a1) (impl_set_text.f (k + 1) a0 a1):=by
 intro a0 a1 k
 have ih0:=impl_set_text.mono_l k
 unfold impl_set_text.f
 repeat' first
   | (with_reducible exact ih0 _ _ _)
   | (with_reducible exact LeO.refl _)
   | (with_reducible exact LeO.none _)
   | (with_reducible refine LeO.ite ?_ ?_)
   | (with_reducible refine LeO.bind ?_ (fun _=>?_))
   | exact ih0 _ _ _
   | exact LeO.none _
   | refine LeO.ite ?_ ?_
   | refine LeO.bind ?_ (fun _=>?_)
def impl_set_text.T3:Bool × List (List Nat × List Nat):=(true,[([],[]),([0],[0]),([1],[1]),([2],[2]),([],[]),([4],[4]),([5,2],[5]),([3,6],[3,6]),([7],[7]),([8,6,0,1,2,3,4,5,6,7,8],[8]),([9,0,1,2,3,4,5,6,7,8,9],[])])
def impl_set_text.B3:List Nat:=[0,1,3,7,0,16,55,127,255,511,1023]
theorem impl_set_text.tab3:rtab .any (opsOf Try.f26 3) = impl_set_text.T3:=by kernel_rfl
theorem impl_set_text.bits3:waitsOk impl_set_text.T3.2 impl_set_text.B3 = true:=by kernel_rfl
set_option maxHeartbeats 8000000 in
set_option maxRecDepth 100000 in
theorem impl_set_text.calls (k:Nat) (A0_0:Option Addr) (c0_0:Nat) (l0_0:List Bool) (A0_1:Option Addr) (c0_1:Nat) (l0_1:List Bool) (r1:ByteArray) (r2:Bool) (w:World) (hr0_0:Kd.C Kd.bool w A0_0 l0_0.length l0_0) (hc0_0:l0_0.length≤c0_0) (hr0_1:Kd.C Kd.bool w A0_1 l0_1.length l0_1) (hc0_1:l0_1.length≤c0_1) (h:impl_set_text.f k l0_0 l0_1 = some (r1,r2)) :
  Calls Try.prog 26 #[.agg #[.slice A0_0 l0_0.length c0_0,.slice A0_1 l0_1.length c0_1]] w fun e w'=>e = .returned (.tuple #[.string r1,.bool r2])∧Below w.heap.size w w':=by
 have hu45:=Try.underlying45
 have HR0_0:=Aside0.mk hr0_0
 have HC0_0:=Aside0.mk hc0_0
 clear hr0_0 hc0_0
 have HR0_1:=Aside0.mk hr0_1
 have HC0_1:=Aside0.mk hc0_1
 clear hr0_1 hc0_1
 have HB:=Aside0.mk (Below.refl w.heap.size w)
 have H:(if (l0_0.length:Int) > 60 then (impl_set_text.j0 k true l0_0 l0_1) else (impl_set_text.j0 k (decide ((l0_1.length:Int) > 60)) l0_0 l0_1)) = some (r1,r2):=h
 clear h
 have HC2:=Aside0.mk H
 clear H
 go_enter Try.func26,Try.ntmps26
 go_upto_region 1 with (first|((with_reducible refine gate_dst (N:=1) rfl ?_);(try (refine gate_guard (by rfl) ?_;dsimp only));refine box_event ?hg (N:=1) ?hd (cs:=#[.slice A0_0 l0_0.length c0_0,.slice A0_1 l0_1.length c0_1]) (t:=45) ?hr ?_;(case hd=>rfl);(case hg=>rfl);(case hr=>first|(go_simp;done)|(go_simp;rfl));intro gb203 hg w3 hbox hb;have n0_:=Aside0.mk (below_step (by repeat (first|(with_reducible first|exact HB.out|apply below_alloc|apply pw_below_drewN|apply below_drew1)|exact HB.out)) hb);have n1_:=Aside0.mk (hbox);have n2_:=Aside0.mk ((by rw [hg];exact (below_size (by repeat (first|(with_reducible first|exact HB.out|apply below_alloc|apply pw_below_drewN|apply below_drew1)|exact HB.out))):w.heap.size≤gb203));have n3_:=Aside0.mk ((by rw [hg];exact (below_size (by repeat (first|(with_reducible first|exact HB.out|apply below_alloc|apply pw_below_drewN|apply below_drew1)|exact HB.out))):w.heap.size≤gb203));clear HB;have HB:=n0_;have BK203:=n1_;have GW203:=n2_;have GE203:=n3_;clear n0_ n1_ n2_ n3_;clear hb hbox hg))
 (try simp only [Act.put,List.setIfInBounds_toArray,List.set_cons_zero,List.set_cons_succ])
 go_cut [13] (fun v13 wc=>∃ (kq:Nat) (x13_1:Bool),v13 = .bool x13_1∧Aside0 (impl_set_text.j0 kq x13_1 l0_0 l0_1 = some (r1,r2))∧Aside0 (kq≤k)∧Aside0 (wc.heap[gb203]? = some (.cells #[(.slice A0_0 l0_0.length c0_0),(.slice A0_1 l0_1.length c0_1)] 45 (0,0)))∧Aside0 (Below w.heap.size w wc))
 case first =>
  have H:=HC2.out
  clear HC2
  by_cases c4:(l0_0.length:Int) > 60
  ·rw [if_pos c4] at H
   have c4b0:decide (60 < (l0_0.length:Int)) = true:=decide_eq_true c4
   have c4b1:decide (60 < l0_0.length) = true:=decide_eq_true (by omega)
   clear c4
   (first|rw [c4b0]|(simp only [i64_w,i32_w];rw [c4b0])|skip)
   have H':=Aside0.mk H
   clear H
   have hcz5_0:w3.cell? ⟨gb203,0,none⟩ = some (.slice A0_0 l0_0.length c0_0):=(blk_cell BK203.out 0).trans rfl
   have hcz5_1:w3.cell? ⟨gb203,1,none⟩ = some (.slice A0_1 l0_1.length c0_1):=(blk_cell BK203.out 1).trans rfl
   have hfz5_0:=blk_frozen BK203.out 0
   have hfz5_1:=blk_frozen BK203.out 1
   go_wp2
   go_meet
   case rel=>exact ⟨_,(true),(by first|rfl|(simp;done)|(simp [*];done)|(simp [Int.tmod_eq_emod_of_nonneg];done)),H',⟨by first|omega|exact Nat.le_refl _⟩,⟨by (with_reducible repeat (first|refine blk_drewN ?_ _|refine blk_drew ?_|refine blk_alloc ?_ _));exact BK203.out⟩,⟨by repeat (first|(with_reducible first|exact HB.out|apply below_alloc|apply pw_below_drewN|apply below_drew1|refine below_set ?_ GE203.out)|exact HB.out)⟩⟩
  ·rw [if_neg c4] at H
   have c4b0:decide (60 < (l0_0.length:Int)) = false:=decide_eq_false c4
   have c4b1:decide (60 < l0_0.length) = false:=decide_eq_false (by omega)
   clear c4
   (first|rw [c4b0]|(simp only [i64_w,i32_w];rw [c4b0])|skip)
   have H':=Aside0.mk H
   clear H
   have hcz6_0:w3.cell? ⟨gb203,0,none⟩ = some (.slice A0_0 l0_0.length c0_0):=(blk_cell BK203.out 0).trans rfl
   have hcz6_1:w3.cell? ⟨gb203,1,none⟩ = some (.slice A0_1 l0_1.length c0_1):=(blk_cell BK203.out 1).trans rfl
   have hfz6_0:=blk_frozen BK203.out 0
   have hfz6_1:=blk_frozen BK203.out 1
   go_wp2
   go_meet
   case rel=>exact ⟨_,(decide ((l0_1.length:Int) > 60)),(by first|rfl|(simp;done)|(simp [*];done)|(simp [Int.tmod_eq_emod_of_nonneg];done)),H',⟨by first|omega|exact Nat.le_refl _⟩,⟨by (with_reducible repeat (first|refine blk_drewN ?_ _|refine blk_drew ?_|refine blk_alloc ?_ _));exact BK203.out⟩,⟨by repeat (first|(with_reducible first|exact HB.out|apply below_alloc|apply pw_below_drewN|apply below_drew1|refine below_set ?_ GE203.out)|exact HB.out)⟩⟩
 case rest =>
  clear HC2
  try clear c2
  try clear p2
  try clear c4
  try clear c4b0
  try clear c4b1
  try clear hcz5_0
  try clear hcz5_1
  try clear hcz6_0
  try clear hcz6_1
  try clear hfz5_0
  try clear hfz5_1
  try clear hfz6_0
  try clear hfz6_1
  obtain ⟨kq,x13_1,rfl,HA,HJ1,BK203,HB⟩:=hcut
  cases kq with
  | zero=>exact absurd HA.out (by simp [impl_set_text.j0])
  | succ kj1 =>
   have H:=HA.out
   clear HA
   simp only [impl_set_text.j0] at H
   by_cases c7:x13_1 = true
   ·subst c7
    have H1:(some ((⟨#[]⟩:ByteArray),false)) = some (r1,r2):=by rw [if_pos rfl] at H;exact H
    clear H
    have H:=H1
    clear H1
    simp only [Option.some.injEq,Prod.mk.injEq] at H
    obtain ⟨rfl,rfl⟩:=H
    go_wp2
    go_ret2
    exact ⟨by first|rfl|(simp [errW_none,errW_some] <;> rfl)|(simp [*,errW_none,errW_some] <;> rfl)|(simp [errW_none,errW_some];exact ⟨rfl,rfl⟩),by repeat (first|(with_reducible first|exact HB.out|apply below_alloc|apply pw_below_drewN|apply below_drew1|refine below_set ?_ GE203.out)|exact HB.out)⟩
   ·replace c7:=Bool.eq_false_iff.mpr c7
    subst c7
    have H1:((impl_told.f l0_0).bind fun t204=>(if t204.size + 1≤9223372036854775807 then ((impl_told.f l0_1).bind fun t205=>(if t204.size + 1 + t205.size≤9223372036854775807 then (if t204.size + 1 + t205.size + 1≤9223372036854775807 then (some (((t204 ++ (⟨#[40]⟩:ByteArray)) ++ t205) ++ (⟨#[41]⟩:ByteArray),true)) else (none)) else (none))) else (none))) = some (r1,r2):=by rw [if_neg (show ¬ (false = true) by decide)] at H;exact H
    clear H
    have H:=H1
    clear H1
    replace H:=Option.bind_eq_some_iff.mp H
    obtain ⟨t204,A80,H⟩:=H
    replace H:(if t204.size + 1≤9223372036854775807 then ((impl_told.f l0_1).bind fun t205=>(if t204.size + 1 + t205.size≤9223372036854775807 then (if t204.size + 1 + t205.size + 1≤9223372036854775807 then (some (((t204 ++ (⟨#[40]⟩:ByteArray)) ++ t205) ++ (⟨#[41]⟩:ByteArray),true)) else (none)) else (none))) else (none)) = some (r1,r2):=H
    have A8:=Aside0.mk A80
    clear A80
    by_cases c9:t204.size + 1≤9223372036854775807
    ·rw [if_pos c9] at H
     have c9b0:=eq_true c9
     have c9b1:decide (t204.size + 1≤9223372036854775807) = true:=decide_eq_true c9
     try have c9b2:(9223372036854775807 < t204.size + 1) = False:=eq_false (Nat.not_lt.2 c9)
     replace H:=Option.bind_eq_some_iff.mp H
     obtain ⟨t205,A100,H⟩:=H
     replace H:(if t204.size + 1 + t205.size≤9223372036854775807 then (if t204.size + 1 + t205.size + 1≤9223372036854775807 then (some (((t204 ++ (⟨#[40]⟩:ByteArray)) ++ t205) ++ (⟨#[41]⟩:ByteArray),true)) else (none)) else (none)) = some (r1,r2):=H
     have A10:=Aside0.mk A100
     clear A100
     by_cases c11:t204.size + 1 + t205.size≤9223372036854775807
     ·rw [if_pos c11] at H
      have c11b0:=eq_true c11
      have c11b1:decide (t204.size + 1 + t205.size≤9223372036854775807) = true:=decide_eq_true c11
      try have c11b2:(9223372036854775807 < t204.size + 1 + t205.size) = False:=eq_false (Nat.not_lt.2 c11)
      by_cases c12:t204.size + 1 + t205.size + 1≤9223372036854775807
      ·rw [if_pos c12] at H
       have c12b0:=eq_true c12
       have c12b1:decide (t204.size + 1 + t205.size + 1≤9223372036854775807) = true:=decide_eq_true c12
       try have c12b2:(9223372036854775807 < t204.size + 1 + t205.size + 1) = False:=eq_false (Nat.not_lt.2 c12)
       simp only [Option.some.injEq,Prod.mk.injEq] at H
       obtain ⟨rfl,rfl⟩:=H
       try go_wp2
       have n0_:=Aside0.mk (blk_drew BK203.out)
       have n1_:=Aside0.mk (below_drew1 HB.out)
       clear BK203
       clear HB
       have BK203:=n0_
       have HB:=n1_
       clear n0_ n1_
       refine start_ (n:=11) (S:=fun w'=>w'.cell? ⟨gb203,0,none⟩ = some (.slice A0_0 l0_0.length c0_0)∧w'.cell? ⟨gb203,1,none⟩ = some (.slice A0_1 l0_1.length c0_1)) (ds:=[]) #[false,false,false,false,false,false,false,false,false,false,false] (by kernel_rfl) rfl rfl ⟨(blk_cell BK203.out 0).trans rfl,(blk_cell BK203.out 1).trans rfl⟩ (fun hHeld=>?_);refine with_tabW impl_set_text.tab3 impl_set_text.bits3 (fun HT_ HW_=>?_)
       generalize wc.drew = w13 at BK203 HB hHeld ⊢
       refine pure_ (i:=0) (N:=some 14) (v:=?_) (a':=?_) #[true,false,false,false,false,false,false,false,false,false,false] rfl rfl (any_of HT_.out (by kernel_rfl)) (fun _ _ _ h=>h) (Or.inl ⟨by rfl,?_⟩) ?_ ?_
       rotate_left
       ·intro w'
        go_simp
        with_reducible rfl
       rotate_left
       ·simp only [Act.put,List.setIfInBounds_toArray,List.set_cons_zero,List.set_cons_succ,i64_w,i32_w]
        rfl
       refine pure_ (i:=4) (N:=some 18) (v:=?_) (a':=?_) #[true,false,false,false,true,false,false,false,false,false,false] rfl rfl (any_of HT_.out (by kernel_rfl)) (fun _ _ _ h=>h) (Or.inl ⟨by rfl,?_⟩) ?_ ?_
       rotate_left
       ·intro w'
        go_simp
        with_reducible rfl
       rotate_left
       ·simp only [Act.put,List.setIfInBounds_toArray,List.set_cons_zero,List.set_cons_succ,i64_w,i32_w]
        rfl
       refine take_ (i:=1) (N:=some 15) (v:=?_) (a':=?_) #[true,true,false,false,true,false,false,false,false,false,false] rfl rfl (take_ofW HT_.out HW_.out (by kernel_rfl)) (fun _ _ _ h=>h) (Or.inl ⟨by rfl,?_⟩) hHeld ?_ ?_
       rotate_left
       ·rintro w' ⟨s0,s1⟩
        go_simp
        with_reducible rfl
       rotate_left
       ·simp only [Act.put,List.setIfInBounds_toArray,List.set_cons_zero,List.set_cons_succ,i64_w,i32_w]
        rfl
       refine take_ (i:=5) (N:=some 19) (v:=?_) (a':=?_) #[true,true,false,false,true,true,false,false,false,false,false] rfl rfl (take_ofW HT_.out HW_.out (by kernel_rfl)) (fun _ _ _ h=>h) (Or.inl ⟨by rfl,?_⟩) hHeld ?_ ?_
       rotate_left
       ·rintro w' ⟨s0,s1⟩
        go_simp
        with_reducible rfl
       rotate_left
       ·simp only [Act.put,List.setIfInBounds_toArray,List.set_cons_zero,List.set_cons_succ,i64_w,i32_w]
        rfl
       refine one_ (i:=2) (N:=some 16) #[true,true,true,false,true,true,false,false,false,false,false] rfl rfl (one_of HT_.out (by kernel_rfl)) (by decide) (fun K hK=>?_)
       refine goes_ Try.func36 (by kernel_rfl) rfl #[.slice A0_0 l0_0.length c0_0] (by rfl) rfl rfl (by (try simp only [List.map_toArray,List.map_cons,List.map_nil]);first|done|rfl|(simp only [List.length_drop,List.length_take];rfl)) ?_
       with_reducible refine (impl_told.calls _ _ l0_0 t204 _ ?side1 ?side2 A8.out).mono ?_
       (case side1=>repeat (first|exact (Kd.C_below HR0_0.out HB.out)|(with_reducible refine Kd.C_alloc ?_ _)|(with_reducible refine Kd.C_drewN ?_ _)|(with_reducible refine Kd.C_drew ?_)))
       (case side2=>exact HC0_0.out)
       rintro e w14 ⟨rfl,hb⟩
       refine ⟨_,rfl,?_⟩
       have n0_:=Aside0.mk (blk_below (g:=gb203) (o:=.cells #[.slice A0_0 l0_0.length c0_0,.slice A0_1 l0_1.length c0_1] 45 (0,0)) (by (with_reducible repeat (first|refine blk_drewN ?_ _|refine blk_drew ?_|refine blk_alloc ?_ _));exact BK203.out) hb)
       have n1_:=Aside0.mk (below_step (by repeat (first|(with_reducible first|exact HB.out|apply below_alloc|apply pw_below_drewN|apply below_drew1|refine below_set ?_ GE203.out)|exact HB.out)) hb)
       clear BK203
       clear HB
       have BK203:=n0_
       have HB:=n1_
       clear n0_ n1_
       (try clear hb)
       (try clear hb2)
       (try clear hk)
       (try clear hi)
       refine hK.out _ _ ⟨(blk_cell BK203.out 0).trans rfl,(blk_cell BK203.out 1).trans rfl⟩ (fun hHeld=>?_)
       clear hK K
       refine norm_ (a':=?_) ?_ ?_
       rotate_left
       ·show Act.put _ (some 16) _ = _
        simp only [Act.put,List.setIfInBounds_toArray,List.set_cons_zero,List.set_cons_succ,i64_w,i32_w]
        rfl
       refine pure_ (i:=3) (N:=some 17) (v:=?_) (a':=?_) #[true,true,true,true,true,true,false,false,false,false,false] rfl rfl (any_of HT_.out (by kernel_rfl)) (fun _ _ _ h=>h) (Or.inl ⟨by rfl,?_⟩) ?_ ?_
       rotate_left
       ·intro w'
        go_simp
        with_reducible rfl
       rotate_left
       ·simp only [Act.put,List.setIfInBounds_toArray,List.set_cons_zero,List.set_cons_succ,i64_w,i32_w]
        rfl
       refine one_ (i:=6) (N:=some 20) #[true,true,true,true,true,true,true,false,false,false,false] rfl rfl (one_of HT_.out (by kernel_rfl)) (by decide) (fun K hK=>?_)
       refine goes_ Try.func36 (by kernel_rfl) rfl #[.slice A0_1 l0_1.length c0_1] (by rfl) rfl rfl (by (try simp only [List.map_toArray,List.map_cons,List.map_nil]);first|done|rfl|(simp only [List.length_drop,List.length_take];rfl)) ?_
       with_reducible refine (impl_told.calls _ _ l0_1 t205 _ ?side1 ?side2 A10.out).mono ?_
       (case side1=>repeat (first|exact (Kd.C_below HR0_1.out HB.out)|(with_reducible refine Kd.C_alloc ?_ _)|(with_reducible refine Kd.C_drewN ?_ _)|(with_reducible refine Kd.C_drew ?_)))
       (case side2=>exact HC0_1.out)
       rintro e w15 ⟨rfl,hb⟩
       refine ⟨_,rfl,?_⟩
       have n0_:=Aside0.mk (blk_below (g:=gb203) (o:=.cells #[.slice A0_0 l0_0.length c0_0,.slice A0_1 l0_1.length c0_1] 45 (0,0)) (by (with_reducible repeat (first|refine blk_drewN ?_ _|refine blk_drew ?_|refine blk_alloc ?_ _));exact BK203.out) hb)
       have n1_:=Aside0.mk (below_step (by repeat (first|(with_reducible first|exact HB.out|apply below_alloc|apply pw_below_drewN|apply below_drew1|refine below_set ?_ GE203.out)|exact HB.out)) hb)
       clear BK203
       clear HB
       have BK203:=n0_
       have HB:=n1_
       clear n0_ n1_
       (try clear hb)
       (try clear hb2)
       (try clear hk)
       (try clear hi)
       refine hK.out _ _ ⟨(blk_cell BK203.out 0).trans rfl,(blk_cell BK203.out 1).trans rfl⟩ (fun hHeld=>?_)
       clear hK K
       refine norm_ (a':=?_) ?_ ?_
       rotate_left
       ·show Act.put _ (some 20) _ = _
        simp only [Act.put,List.setIfInBounds_toArray,List.set_cons_zero,List.set_cons_succ,i64_w,i32_w]
        rfl
       refine pure_ (i:=7) (N:=some 21) (v:=?_) (a':=?_) #[true,true,true,true,true,true,true,true,false,false,false] rfl rfl (any_of HT_.out (by kernel_rfl)) (fun _ _ _ h=>h) (Or.inl ⟨by rfl,?_⟩) ?_ ?_
       rotate_left
       ·intro w'
        go_simp
        with_reducible rfl
       rotate_left
       ·simp only [Act.put,List.setIfInBounds_toArray,List.set_cons_zero,List.set_cons_succ,i64_w,i32_w]
        rfl
       refine pure_ (i:=8) (N:=some 22) (v:=?_) (a':=?_) #[true,true,true,true,true,true,true,true,true,false,false] rfl rfl (any_of HT_.out (by kernel_rfl)) (fun _ _ _ h=>h) (Or.inl ⟨by rfl,?_⟩) ?_ ?_
       rotate_left
       ·intro w'
        go_simp
        with_reducible rfl
       rotate_left
       ·simp only [Act.put,List.setIfInBounds_toArray,List.set_cons_zero,List.set_cons_succ,i64_w,i32_w]
        rfl
       refine pure_ (i:=9) (N:=some 2) (v:=?_) (a':=?_) #[true,true,true,true,true,true,true,true,true,true,false] rfl rfl (any_of HT_.out (by kernel_rfl)) (fun _ _ _ h=>h) (Or.inl ⟨by rfl,?_⟩) ?_ ?_
       rotate_left
       ·intro w'
        go_simp
        with_reducible rfl
       rotate_left
       ·simp only [Act.put,List.setIfInBounds_toArray,List.set_cons_zero,List.set_cons_succ,i64_w,i32_w]
        rfl
       refine pure_ (i:=10) (N:=some 3) (v:=?_) (a':=?_) #[true,true,true,true,true,true,true,true,true,true,true] rfl rfl (any_of HT_.out (by kernel_rfl)) (fun _ _ _ h=>h) (Or.inl ⟨by rfl,?_⟩) ?_ ?_
       rotate_left
       ·intro w'
        go_simp
        with_reducible rfl
       rotate_left
       ·simp only [Act.put,List.setIfInBounds_toArray,List.set_cons_zero,List.set_cons_succ,i64_w,i32_w]
        rfl
       refine done_ (done_of HT_.out (by kernel_rfl)) ?_
       try go_wp2
       go_ret2
       exact ⟨by first|rfl|(simp [errW_none,errW_some] <;> rfl)|(simp [*,errW_none,errW_some] <;> rfl)|(simp [errW_none,errW_some];exact ⟨rfl,rfl⟩),by repeat (first|(with_reducible first|exact HB.out|apply below_alloc|apply pw_below_drewN|apply below_drew1|refine below_set ?_ GE203.out)|exact HB.out)⟩
      ·rw [if_neg c12] at H
       exact absurd H (by simp)
     ·rw [if_neg c11] at H
      exact absurd H (by simp)
    ·rw [if_neg c9] at H
     exact absurd H (by simp)

end Go.Proofs.Ytmedlhoahddbmaa.P

namespace Go.Proofs.Ytmedlhoahddbmaa.P
open Go.RowKit Go.Proofs.YtmedlhoahddbmaaW.PrintWords Go.Proofs.YtmedlhoahddbmaaW.PrintLast Go.Proofs.YtmedlhoahddbmaaW.PrintMore
set_option linter.unusedVariables false
set_option linter.unusedSimpArgs false

theorem bool_info : (Try.prog.info? 4).map (fun i => (i.zero, i.size, i.bytes)) = some (some (.bool false), 1, 1) := by kernel_rfl
theorem take_bools {l : List Bool} {k : Nat} (h : k < l.length) : (l.take (k + 1)).map Value.bool = (l.take k).map Value.bool ++ [.bool (l.getD k false)] := by
  rw [List.take_succ_eq_append_getElem h, List.map_append, List.getD_eq_getElem?_getD, List.getElem?_eq_getElem h]; rfl

theorem frozen_alloc_old {w : World} {a : Addr} (h : w.frozen? a = false) (hl : a.block < w.heap.size) (o : Obj) : (w.alloc o).frozen? a = false :=
  (World.frozen?_of_block (Below.heap_alloc w o a.block hl)).trans h
theorem getD_left {t r : List Bool} {i : Nat} (h : i < t.length) : (t ++ r).getD i false = t.getD i false := by
  rw [List.getD_eq_getElem?_getD, List.getD_eq_getElem?_getD, List.getElem?_append_left h]
theorem getD_right {t r : List Bool} (i : Nat) : (t ++ r).getD (t.length + i) false = r.getD i false := by
  rw [List.getD_eq_getElem?_getD, List.getD_eq_getElem?_getD, List.getElem?_append_right (by omega), Nat.add_sub_cancel_left]
theorem own_set {w : World} {base : Nat} {e : TypeId} {size n : Nat} {v : Value} {xs : List Value} {b j : Nat} (h : w.ownsRow base e size v n xs) (hne : v.ownBlock ≠ some b) (u : Value) : (w.setCell ⟨b, j, none⟩ u).ownsRow base e size v n xs :=
  h.kept (row := some b) ⟨rfl, rfl, rfl, by simp [World.setCell], fun k _ hk => Below.heap_setCell _ _ _ _ (fun e => hk (by simp [e]))⟩ (Or.inr hne)
theorem set_cell0 {w : World} {b : Nat} {v0 v1 : Value} {T : TypeId} (h : w.heap[b]? = some (.cells #[v0, v1] T (0, 0))) (u : Value) : (w.setCell ⟨b, 0, none⟩ u).heap[b]? = some (.cells #[u, v1] T (0, 0)) := by
  simp [World.setCell, Array.getElem?_modify, h]
theorem set_cell1 {w : World} {b : Nat} {v0 v1 : Value} {T : TypeId} (h : w.heap[b]? = some (.cells #[v0, v1] T (0, 0))) (u : Value) : (w.setCell ⟨b, 1, none⟩ u).heap[b]? = some (.cells #[v0, u] T (0, 0)) := by
  simp [World.setCell, Array.getElem?_modify, h]
/-- A round: the call, the cell to be appended, the append. -/
theorem made_block {wr w1 w2 : World} {o ob : Obj} {row : Option Nat} {b : Nat} (hh : wr.heap[b]? = some o) (hb1 : Below wr.heap.size wr w1) (hg : (w1.alloc ob).grownBy w2 row) (hne : row ≠ some b) : w2.heap[b]? = some o := by
  have hl := blk_lt hh
  have h1 : w1.heap[b]? = some o := (hb1.block b hl).trans hh
  exact (hg.block b (by have := blk_lt h1; simp; omega) (Ne.symm hne)).trans ((Below.heap_alloc w1 ob b (blk_lt h1)).trans h1)

set_option maxHeartbeats 16000000 in
set_option maxRecDepth 100000 in
theorem impl_made.calls (k : Nat) (t r : List Bool) (r1 : ByteArray) (r2 : Bool) (g : Nat) (lb : Array Value) (w : World)
    (eg : ∀ args w, (callFunc g args).run Try.prog w = .ok (.enter g args) w)
    (hp : ∀ (W : World) (i : Nat), Below w.heap.size w W → i < t.length + r.length → Calls Try.prog g (#[.int .i64 i] ++ lb) W fun e w' => e = .returned (.bool ((t ++ r).getD i false)) ∧ Below W.heap.size W w')
    (hl : t.length + r.length ≤ 1000000) (h : (impl_set_tidy.f k t r).bind (fun y => impl_set_text.f k y.1 y.2) = some (r1, r2)) :
    Calls Try.prog 15 #[.int .i64 t.length, .int .i64 r.length, .func (.func g) #[] lb] w fun e w' => e = .returned (.tuple #[.string r1, .bool r2]) ∧ Below w.heap.size w w' := by
  obtain ⟨i0, hi, hz0, hz1, hz2⟩ := info_parts bool_info
  have HL := Aside0.mk hl
  have HP := Aside0.mk hp
  have HX := Aside0.mk h
  clear hp h hl
  go_enter Try.func15, Try.ntmps15
  go_wp2
  go_loopg [12] t.length (fun gg s12 wr => ∃ (k : Nat) (v0 : Value), k ≤ t.length ∧ t.length - k ≤ gg ∧ s12 = .int .i64 k ∧ Aside0 (wr.heap[w.heap.size]? = some (.cells #[v0, .slice none 0 0] 45 (0, 0))) ∧ Aside0 (wr.ownsRow w.heap.size 4 1 v0 k ((t.take k).map Value.bool)) ∧ Aside0 (Below w.heap.size w wr))
  case atStart =>
    exact ⟨0, .slice none 0 0, Nat.zero_le _, by omega, rfl, ⟨heap_alloc_new _ _⟩, ⟨World.ownsRow_nil _ _ _ _⟩, ⟨below_alloc (Below.refl _ _) _⟩⟩
  case round =>
    obtain ⟨kk, v0, hk, hgg, rfl, HH, HO, HB⟩ := hrel
    by_cases hlt : kk < t.length
    · obtain ⟨bv, hbv⟩ : ∃ bv, (t ++ r).getD kk false = bv := ⟨_, rfl⟩
      have hcall : ∀ W, Below w.heap.size w W → Calls Try.prog g (#[.int .i64 kk] ++ lb) W fun e w' => e = .returned (.bool bv) ∧ Below W.heap.size W w' := fun W hW => by
        have := HP.out W kk hW (by omega)
        rw [hbv] at this; exact this
      have hlen := HL.out
      have c0 : wr.cell? ⟨w.heap.size, 0, none⟩ = some v0 := by rw [Lib.cell_of_heap HH.out]; rfl
      have f0 : wr.frozen? ⟨w.heap.size, 0, none⟩ = false := Lib.frozen_of_heap HH.out 0
      have hbl : w.heap.size < wr.heap.size := World.block_lt_of_cell? wr _ c0
      have hne : v0.ownBlock ≠ some w.heap.size := Lib.ownBlock_ne HO.out HH.out (by decide)
      have HV := Aside0.mk hbv
      have HCall := Aside0.mk hcall
      clear hbv hcall
      go_wp2_with fail
      go_region_law ((first
          | (go_simp; go_at_fn g; refine (HCall.out _ (by repeat (first | exact HB.out | apply below_drew1))).mono ?_; rintro e w1 ⟨rfl, hb0⟩; have hb1 : Below wr.heap.size wr w1 := ⟨hb0.os, hb0.tape, hb0.output, hb0.size, hb0.block⟩; have c1 : w1.cell? ⟨w.heap.size, 0, none⟩ = some v0 := (hb1.cell (p := ⟨w.heap.size, 0, none⟩) hbl).trans c0; have f1 : w1.frozen? ⟨w.heap.size, 0, none⟩ = false := (hb1.frozen (p := ⟨w.heap.size, 0, none⟩) hbl).trans f0; have hl1 := Nat.lt_of_lt_of_le hbl hb1.size; have hlN := Nat.le_trans (Nat.le_of_lt hbl) hb1.size; have c1a : ∀ o, (w1.alloc o).cell? ⟨w.heap.size, 0, none⟩ = some v0 := fun o => Lib.cell?_alloc_some _ c1)
          | (refine step_append_lies _ (by rfl) _ _ _ (by rfl) w.heap.size 4 i0 _ 1 1 Try.underlying40 hi hz0 hz1 hz2 rfl (by omega) v0 kk ((t.take kk).map Value.bool) (by rfl) (pw_own_below HO.out (by repeat (first | exact hb1 | apply below_alloc | apply below_drew1))) ⟨w1.heap.size, 0, none⟩ 1 1 [.bool bv] (by rfl) (by rfl) (World.news_of_block (cs := #[.bool bv]) (t := 4) (fr := (0, 0)) (heap_alloc_new _ _)) (by simp [Value.oneCell']) (by omega) (by unfold maxLen; omega) (by omega) (by simp; omega) _ rfl ?_; intro gg cap w2 hown2 hgrow hat hlt2; have f2 : w2.frozen? ⟨w.heap.size, 0, none⟩ = false := (hgrow.frozen_far ⟨w.heap.size, 0, none⟩ (by simp; omega) (Ne.symm hne)).trans (frozen_alloc_old f1 hl1 _); have c2 : w2.cell? ⟨w.heap.size, 0, none⟩ = some v0 := (hgrow.cell_far ⟨w.heap.size, 0, none⟩ (by simp; omega) (Ne.symm hne)).trans (c1a _))))
      all_goals
        go_wp2
        go_roundg (t.length - (kk + 1))
        case measure => omega
        case rel =>
          have hw2 := made_block HH.out hb1 hgrow hne
          have e : t.getD kk false = bv := (getD_left hlt).symm.trans HV.out
          refine ⟨kk + 1, _, by omega, by omega, by go_num, ⟨set_cell0 hw2 _⟩, ⟨?_⟩, ⟨((below_alloc (below_step HB.out hb1) _).grown hgrow (by have := hb1.size; simp; omega) (fun k hk => (HO.out.lt k hk).1)).setCell (Nat.le_refl _) _⟩⟩
          rw [take_bools hlt, e]
          exact own_set hown2 (Lib.ownBlock_ne hown2 hw2 (by decide)) _
    · have e : kk = t.length := by omega
      subst e
      have e : t.take t.length = t := List.take_of_length_le (Nat.le_refl _)
      rw [e] at HO
      clear e
      obtain ⟨B2, hB2⟩ : ∃ B2, wr.heap.size = B2 := ⟨_, rfl⟩
      have hv0 : ∀ k, v0.ownBlock = some k → k < B2 := fun k hk => by rw [← hB2]; exact (HO.out.lt k hk).2
      have hn0 : v0.ownBlock ≠ some w.heap.size := Lib.ownBlock_ne HO.out HH.out (by decide)
      have HB2 := Aside0.mk hB2
      have HV0 := Aside0.mk hv0
      have HN0 := Aside0.mk hn0
      clear hB2 hv0 hn0
      go_wp2
      go_loopg [25] r.length (fun gg s25 wq => ∃ (k : Nat) (v1 : Value), k ≤ r.length ∧ r.length - k ≤ gg ∧ s25 = .int .i64 k ∧ Aside0 (wq.heap[w.heap.size]? = some (.cells #[v0, v1] 45 (0, 0))) ∧ Aside0 (wq.ownsRow w.heap.size 4 1 v0 t.length (t.map Value.bool)) ∧ Aside0 (wq.ownsRow B2 4 1 v1 k ((r.take k).map Value.bool)) ∧ Aside0 (Below w.heap.size w wq) ∧ Aside0 (B2 ≤ wq.heap.size) ∧ Aside0 (w.heap.size < B2))
      case atStart =>
        exact ⟨0, .slice none 0 0, Nat.zero_le _, by omega, rfl, HH, HO, ⟨World.ownsRow_nil _ _ _ _⟩, HB, ⟨Nat.le_of_eq HB2.out.symm⟩, ⟨by have := blk_lt HH.out; have := HB2.out; omega⟩⟩
      case round =>
        clear HO HH HB
        clear hk hgg hlt
        clear HB2
        obtain ⟨kk, v1, hk, hgg, rfl, HH, HO, HR, HB, HQ, HL2⟩ := hrel
        by_cases hlt : kk < r.length
        · obtain ⟨bv, hbv⟩ : ∃ bv, (t ++ r).getD (t.length + kk) false = bv := ⟨_, rfl⟩
          have hsum : IntKind.i64.wrap ((t.length : Int) + (kk : Int)) = ((t.length + kk : Nat) : Int) := by rw [IntKind.wrap_i64]; have := HL.out; omega
          have hcall : ∀ W, Below w.heap.size w W → Calls Try.prog g (#[.int .i64 ((t.length + kk : Nat) : Int)] ++ lb) W fun e w' => e = .returned (.bool bv) ∧ Below W.heap.size W w' := fun W hW => by
            have := HP.out W (t.length + kk) hW (by omega)
            rw [hbv] at this; exact this
          have hlen := HL.out
          have c0 : wr.cell? ⟨w.heap.size, 1, none⟩ = some v1 := by rw [Lib.cell_of_heap HH.out]; rfl
          have f0 : wr.frozen? ⟨w.heap.size, 1, none⟩ = false := Lib.frozen_of_heap HH.out 1
          have hbl : w.heap.size < wr.heap.size := World.block_lt_of_cell? wr _ c0
          have hne : v1.ownBlock ≠ some w.heap.size := Lib.ownBlock_ne HR.out HH.out (by decide)
          have HV := Aside0.mk hbv
          have HCall := Aside0.mk hcall
          clear hbv hcall
          go_wp2_with fail
          go_region_law ((first
              | (go_simp; go_at_fn g; refine (HCall.out _ (by repeat (first | exact HB.out | apply below_drew1))).mono ?_; rintro e w1 ⟨rfl, hb0⟩; have hb1 : Below wr.heap.size wr w1 := ⟨hb0.os, hb0.tape, hb0.output, hb0.size, hb0.block⟩; have c1 : w1.cell? ⟨w.heap.size, 1, none⟩ = some v1 := (hb1.cell (p := ⟨w.heap.size, 1, none⟩) hbl).trans c0; have f1 : w1.frozen? ⟨w.heap.size, 1, none⟩ = false := (hb1.frozen (p := ⟨w.heap.size, 1, none⟩) hbl).trans f0; have hl1 := Nat.lt_of_lt_of_le hbl hb1.size; have hlN := Nat.le_trans HQ.out hb1.size; have c1a : ∀ o, (w1.alloc o).cell? ⟨w.heap.size, 1, none⟩ = some v1 := fun o => Lib.cell?_alloc_some _ c1)
              | (refine step_append_lies _ (by rfl) _ _ _ (by rfl) B2 4 i0 _ 1 1 Try.underlying40 hi hz0 hz1 hz2 rfl (by omega) v1 kk ((r.take kk).map Value.bool) (by rfl) (pw_own_below HR.out (by repeat (first | exact hb1 | apply below_alloc | apply below_drew1))) ⟨w1.heap.size, 0, none⟩ 1 1 [.bool bv] (by rfl) (by rfl) (World.news_of_block (cs := #[.bool bv]) (t := 4) (fr := (0, 0)) (heap_alloc_new _ _)) (by simp [Value.oneCell']) (by omega) (by unfold maxLen; omega) (by omega) (by simp; omega) _ rfl ?_; intro gg cap w2 hown2 hgrow hat hlt2; have f2 : w2.frozen? ⟨w.heap.size, 1, none⟩ = false := (hgrow.frozen_far ⟨w.heap.size, 1, none⟩ (by simp; omega) (Ne.symm hne)).trans (frozen_alloc_old f1 hl1 _); have c2 : w2.cell? ⟨w.heap.size, 1, none⟩ = some v1 := (hgrow.cell_far ⟨w.heap.size, 1, none⟩ (by simp; omega) (Ne.symm hne)).trans (c1a _))))
          all_goals
            go_wp2
            go_roundg (r.length - (kk + 1))
            case measure => omega
            case rel =>
              have hw2 := made_block HH.out hb1 hgrow hne
              have e : r.getD kk false = bv := (getD_right kk).symm.trans HV.out
              have hsz := hb1.size
              have hB2 := HQ.out
              have hown0 := ((pw_own_below HO.out hb1).alloc (Obj.cells #[.bool bv] 4)).kept hgrow (Classical.byCases (fun h : v0.ownBlock = none => Or.inl h) (fun h => Or.inr (fun e => by
                obtain ⟨q, hq⟩ := Option.ne_none_iff_exists'.1 h
                have h1 := HV0.out q hq
                have h2 := (HR.out.lt q (e.symm.trans hq)).1
                omega)))
              refine ⟨kk + 1, _, by omega, by omega, by go_num, ⟨set_cell1 hw2 _⟩, ⟨own_set hown0 HN0.out _⟩, ⟨?_⟩, ⟨((below_alloc (below_step HB.out hb1) _).grown hgrow (by simp; omega) (fun k hk => by have := (HR.out.lt k hk).1; have := HL2.out; omega)).setCell (Nat.le_refl _) _⟩, ⟨by have := hgrow.size; simp [World.setCell] at this ⊢; omega⟩, HL2⟩
              rw [take_bools hlt, e]
              exact own_set hown2 (Lib.ownBlock_ne hown2 hw2 (by decide)) _
        · have e : kk = r.length := by omega
          subst e
          have e : r.take r.length = r := List.take_of_length_le (Nat.le_refl _)
          rw [e] at HR
          have hX := HX.out
          cases hy : impl_set_tidy.f k t r with
          | none => rw [hy] at hX; cases hX
          | some y =>
            rw [hy] at hX
            obtain ⟨A0, n0, rfl, hn0, hC0⟩ := Kd.R_reads (d := Kd.bool) (Kd.R_of_own (ok := fun _ => True) HO.out (fun _ _ => trivial))
            obtain ⟨A1, n1, rfl, hn1, hC1⟩ := Kd.R_reads (d := Kd.bool) (Kd.R_of_own (ok := fun _ => True) HR.out (fun _ _ => trivial))
            have c0 : wr.cell? ⟨w.heap.size, 0, none⟩ = some (.slice A0 t.length n0) := by rw [Lib.cell_of_heap HH.out]; rfl
            have c1 : wr.cell? ⟨w.heap.size, 1, none⟩ = some (.slice A1 r.length n1) := by rw [Lib.cell_of_heap HH.out]; rfl
            have ht := impl_set_tidy.calls k A0 n0 t A1 n1 r y.1 y.2 wr hC0 hn0 hC1 hn1 hy
            have hX2 : impl_set_text.f k y.1 y.2 = some (r1, r2) := hX
            have HX2 := Aside0.mk hX2
            have HT := Aside0.mk ht
            have HB' := HB
            have hu := Try.underlying45
            clear HB HX hX hX2 ht HP HL HL2 HQ HR HO HH hy hC0 hC1 HN0 HV0 hgg hk hlt hn0 hn1 e
            go_wp2_with (first
              | (go_at_call 25; refine HT.out.mono ?_; rintro e w1 ⟨v0_, v1_, rfl, hR0, hR1, hb1⟩; obtain ⟨A2, n2, rfl, hn2, hC2⟩ := Kd.R_reads hR0; obtain ⟨A3, n3, rfl, hn3, hC3⟩ := Kd.R_reads hR1; have HT2 := Aside0.mk (impl_set_text.calls k A2 n2 y.1 A3 n3 y.2 r1 r2 w1 hC2 hn2 hC3 hn3 HX2.out); have HB1 := Aside0.mk (below_step HB'.out hb1); clear hR0 hR1 hC2 hC3 hn2 hn3 hb1 HT)
              | (go_at_call 26; refine HT2.out.mono ?_; rintro e w2 ⟨rfl, hb2⟩))
            go_ret2
            exact ⟨rfl, below_step HB1.out hb2⟩
end Go.Proofs.Ytmedlhoahddbmaa.P

namespace Go.Proofs.Ytmedlhoahddbmaa.P
open Go.RowKit Go.Proofs.YtmedlhoahddbmaaW.PrintWords Go.Proofs.YtmedlhoahddbmaaW.PrintLast Go.Proofs.YtmedlhoahddbmaaW.PrintMore
attribute [local go_sem] max2_int min2_int max_two min_two max_three min_three max_four min_four   -- for this text's walks alone
set_option linter.unusedVariables false
set_option linter.unusedSimpArgs false

/-! ### stringslite_Cut: function 38 -/
def stringslite_Cut.f (a0:ByteArray) (a1:ByteArray):Option (ByteArray × ByteArray × Bool):=(stringslite_Index.f a0 a1).bind fun t141=>(if t141 ≥ 0 then (if 0≤t141 then (if t141≤(a0.size:Int) then (if 0≤(wrap64 (t141 + (a1.size:Int))) then (if (wrap64 (t141 + (a1.size:Int)))≤(a0.size:Int) then (some (a0.extract 0 (t141:Int).toNat,a0.extract ((wrap64 (t141 + (a1.size:Int))):Int).toNat a0.size,true)) else (none)) else (none)) else (none)) else (none)) else (some (a0,(⟨#[]⟩:ByteArray),false)))
set_option maxHeartbeats 8000000 in
set_option maxRecDepth 100000 in
theorem stringslite_Cut.calls (a0:ByteArray) (a1:ByteArray) (r1:ByteArray) (r2:ByteArray) (r3:Bool) (w:World) (h:stringslite_Cut.f a0 a1 = some (r1,r2,r3)) :
  Calls Try.prog 38 #[.string a0,.string a1] w fun e w'=>e = .returned (.tuple #[.string r1,.string r2,.bool r3])∧Drawn0 w w':=by
 have H:((stringslite_Index.f a0 a1).bind fun t141=>(if t141 ≥ 0 then (if 0≤t141 then (if t141≤(a0.size:Int) then (if 0≤(wrap64 (t141 + (a1.size:Int))) then (if (wrap64 (t141 + (a1.size:Int)))≤(a0.size:Int) then (some (a0.extract 0 (t141:Int).toNat,a0.extract ((wrap64 (t141 + (a1.size:Int))):Int).toNat a0.size,true)) else (none)) else (none)) else (none)) else (none)) else (some (a0,(⟨#[]⟩:ByteArray),false)))) = some (r1,r2,r3):=h
 clear h
 replace H:=Option.bind_eq_some_iff.mp H
 obtain ⟨t141,A30,H⟩:=H
 replace H:(if t141 ≥ 0 then (if 0≤t141 then (if t141≤(a0.size:Int) then (if 0≤(wrap64 (t141 + (a1.size:Int))) then (if (wrap64 (t141 + (a1.size:Int)))≤(a0.size:Int) then (some (a0.extract 0 (t141:Int).toNat,a0.extract ((wrap64 (t141 + (a1.size:Int))):Int).toNat a0.size,true)) else (none)) else (none)) else (none)) else (none)) else (some (a0,(⟨#[]⟩:ByteArray),false))) = some (r1,r2,r3):=H
 have A3:=Aside0.mk A30
 clear A30
 by_cases c4:t141 ≥ 0
 ·rw [if_pos c4] at H
  have c4b0:decide (0≤t141) = true:=decide_eq_true c4
  clear c4
  by_cases c5:0≤t141
  ·rw [if_pos c5] at H
   have c5b0:=eq_true c5
   have c5b1:decide (0≤t141) = true:=decide_eq_true c5
   clear c5
   by_cases c6:t141≤(a0.size:Int)
   ·rw [if_pos c6] at H
    have c6b0:=eq_true c6
    have c6b1:decide (t141≤(a0.size:Int)) = true:=decide_eq_true c6
    clear c6
    obtain ⟨ji7,hji7⟩:∃ j_:Int,(wrap64 (t141 + (a1.size:Int))) = j_:=⟨_,rfl⟩
    replace H:(if 0≤(ji7) then (if (ji7)≤(a0.size:Int) then (some (a0.extract 0 (t141:Int).toNat,a0.extract ((ji7):Int).toNat a0.size,true)) else (none)) else (none)) = some (r1,r2,r3):=by first|(rw [hji7] at H;exact H)|(simp only [hji7] at H ⊢;exact H)
    (try rw [hji7] at A3)
    have hji7w:(IntKind.i64.wrap (t141 + (a1.size:Int))) = ji7:=(i64_w _).trans hji7
    by_cases c8:0≤(ji7)
    ·rw [if_pos c8] at H
     have c8b0:=eq_true c8
     have c8b1:decide (0≤(ji7)) = true:=decide_eq_true c8
     clear c8
     by_cases c9:(ji7)≤(a0.size:Int)
     ·rw [if_pos c9] at H
      have c9b0:=eq_true c9
      have c9b1:decide ((ji7)≤(a0.size:Int)) = true:=decide_eq_true c9
      clear c9
      simp only [Option.some.injEq,Prod.mk.injEq] at H
      obtain ⟨rfl,rfl,rfl⟩:=H
      go_enter Try.func38,Try.ntmps38
      go_wp2_with (first|(go_at_call 42;(with_reducible refine (stringslite_Index.calls a0 a1 t141 _ A3.out).mono ?_);rintro e w' ⟨rfl,⟨nd,rfl⟩⟩;(try first|exact ⟨rfl,_,World.drewN_drewN _ _ _⟩|exact ⟨rfl,_,Eq.trans (World.drewN_drewN _ _ _) (congrArg (World.drewN _) (Nat.add_assoc _ _ _))⟩)))
      repeat (go_quiet (first|(go_at_call 42;(with_reducible refine (stringslite_Index.calls a0 a1 t141 _ A3.out).mono ?_);rintro e w' ⟨rfl,⟨nd,rfl⟩⟩;(try first|exact ⟨rfl,_,World.drewN_drewN _ _ _⟩|exact ⟨rfl,_,Eq.trans (World.drewN_drewN _ _ _) (congrArg (World.drewN _) (Nat.add_assoc _ _ _))⟩)));try go_wp2_with (first|(go_at_call 42;(with_reducible refine (stringslite_Index.calls a0 a1 t141 _ A3.out).mono ?_);rintro e w' ⟨rfl,⟨nd,rfl⟩⟩;(try first|exact ⟨rfl,_,World.drewN_drewN _ _ _⟩|exact ⟨rfl,_,Eq.trans (World.drewN_drewN _ _ _) (congrArg (World.drewN _) (Nat.add_assoc _ _ _))⟩))))
      go_ret3
      exact ⟨by first|rfl|(simp;done)|(simp only [← hji7] <;> (first|rfl|simp))|(simp [*];done),by repeat (first|exact Drawn0.refl _|apply Drawn0.step)⟩
     ·rw [if_neg c9] at H
      exact absurd H (by simp)
    ·rw [if_neg c8] at H
     exact absurd H (by simp)
   ·rw [if_neg c6] at H
    exact absurd H (by simp)
  ·rw [if_neg c5] at H
   exact absurd H (by simp)
 ·rw [if_neg c4] at H
  have c4b0:decide (0≤t141) = false:=decide_eq_false c4
  clear c4
  simp only [Option.some.injEq,Prod.mk.injEq] at H
  obtain ⟨rfl,rfl,rfl⟩:=H
  go_enter Try.func38,Try.ntmps38
  go_wp2_with (first|(go_at_call 42;(with_reducible refine (stringslite_Index.calls a0 a1 t141 _ A3.out).mono ?_);rintro e w' ⟨rfl,⟨nd,rfl⟩⟩;(try first|exact ⟨rfl,_,World.drewN_drewN _ _ _⟩|exact ⟨rfl,_,Eq.trans (World.drewN_drewN _ _ _) (congrArg (World.drewN _) (Nat.add_assoc _ _ _))⟩)))
  repeat (go_quiet (first|(go_at_call 42;(with_reducible refine (stringslite_Index.calls a0 a1 t141 _ A3.out).mono ?_);rintro e w' ⟨rfl,⟨nd,rfl⟩⟩;(try first|exact ⟨rfl,_,World.drewN_drewN _ _ _⟩|exact ⟨rfl,_,Eq.trans (World.drewN_drewN _ _ _) (congrArg (World.drewN _) (Nat.add_assoc _ _ _))⟩)));try go_wp2_with (first|(go_at_call 42;(with_reducible refine (stringslite_Index.calls a0 a1 t141 _ A3.out).mono ?_);rintro e w' ⟨rfl,⟨nd,rfl⟩⟩;(try first|exact ⟨rfl,_,World.drewN_drewN _ _ _⟩|exact ⟨rfl,_,Eq.trans (World.drewN_drewN _ _ _) (congrArg (World.drewN _) (Nat.add_assoc _ _ _))⟩))))
  go_ret3
  exact ⟨by first|rfl|(simp;done)|(simp [*];done),by repeat (first|exact Drawn0.refl _|apply Drawn0.step)⟩

end Go.Proofs.Ytmedlhoahddbmaa.P

namespace Go.Proofs.Ytmedlhoahddbmaa.P
open Go.RowKit Go.Proofs.YtmedlhoahddbmaaW.PrintWords Go.Proofs.YtmedlhoahddbmaaW.PrintLast Go.Proofs.YtmedlhoahddbmaaW.PrintMore
attribute [local go_sem] max2_int min2_int max_two min_two max_three min_three max_four min_four   -- for this text's walks alone
set_option linter.unusedVariables false
set_option linter.unusedSimpArgs false

/-! ### strings_Cut: function 30 -/
def strings_Cut.f (a0:ByteArray) (a1:ByteArray):Option (ByteArray × ByteArray × Bool):=(stringslite_Cut.f a0 a1).bind fun bt142=>(some (bt142.1,bt142.2.1,bt142.2.2))
set_option maxHeartbeats 8000000 in
set_option maxRecDepth 100000 in
theorem strings_Cut.calls (a0:ByteArray) (a1:ByteArray) (r1:ByteArray) (r2:ByteArray) (r3:Bool) (w:World) (h:strings_Cut.f a0 a1 = some (r1,r2,r3)) :
  Calls Try.prog 30 #[.string a0,.string a1] w fun e w'=>e = .returned (.tuple #[.string r1,.string r2,.bool r3])∧Drawn0 w w':=by
 have H:((stringslite_Cut.f a0 a1).bind fun bt142=>(some (bt142.1,bt142.2.1,bt142.2.2))) = some (r1,r2,r3):=h
 clear h
 replace H:=Option.bind_eq_some_iff.mp H
 obtain ⟨⟨t142,t143,t144⟩,A30,H⟩:=H
 replace H:(some (t142,t143,t144)) = some (r1,r2,r3):=H
 have A3:=Aside0.mk A30
 clear A30
 simp only [Option.some.injEq,Prod.mk.injEq] at H
 obtain ⟨rfl,rfl,rfl⟩:=H
 go_enter Try.func30,Try.ntmps30
 go_wp2_with (first|((with_reducible refine gate_callee (f:=38) rfl ?_);refine goesL_ (some 9) rfl rfl Try.func38 (by kernel_rfl) rfl #[.string a0,.string a1] rfl (by (try simp only [List.map_toArray,List.map_cons,List.map_nil]);first|done|rfl|(simp only [List.length_drop,List.length_take];rfl)) ?_;(with_reducible refine (stringslite_Cut.calls a0 a1 t142 t143 t144 _ A3.out).mono ?_);rintro e w' ⟨rfl,⟨nd,rfl⟩⟩;refine ⟨_,rfl,?_⟩))
 go_ret3
 exact ⟨by first|rfl|(simp;done)|(simp [*];done),by repeat (first|exact Drawn0.refl _|apply Drawn0.step)⟩

end Go.Proofs.Ytmedlhoahddbmaa.P

namespace Go.Proofs.Ytmedlhoahddbmaa.P
open Go.RowKit Go.Proofs.YtmedlhoahddbmaaW.PrintWords Go.Proofs.YtmedlhoahddbmaaW.PrintLast Go.Proofs.YtmedlhoahddbmaaW.PrintMore
attribute [local go_sem] max2_int min2_int max_two min_two max_three min_three max_four min_four   -- for this text's walks alone
set_option linter.unusedVariables false
set_option linter.unusedSimpArgs false

/-! ### impl_setOf: function 20 -/
def impl_setOf.f (k:Nat) (a0:ByteArray):Option (List Bool × List Bool × Bool):=(strings_Cut.f a0 (⟨#[40]⟩:ByteArray)).bind fun bt159=>((strings_CutSuffix.f bt159.2.1 (⟨#[41]⟩:ByteArray)).bind fun bt162=>((impl_signs.f k bt159.1).bind fun bt164=>((impl_signs.f k bt162.1).bind fun bt168=>(if bt159.2.2 = true then (if bt162.2 = true then (if bt164.2 = true then (if bt168.2 = true then (some (bt164.1,bt168.1,decide ((bt168.1.length:Int) > 0))) else (some (bt164.1,bt168.1,false))) else (some (bt164.1,bt168.1,false))) else (some (bt164.1,bt168.1,false))) else (some (bt164.1,bt168.1,false))))))
theorem impl_setOf.mono:∀ a0 k,LeO (impl_setOf.f k a0) (impl_setOf.f (k + 1) a0):=by
 intro a0 k
 unfold impl_setOf.f
 repeat' first
   | (with_reducible exact impl_signs.mono _ _)
   | (with_reducible exact LeO.refl _)
   | (with_reducible exact LeO.none _)
   | (with_reducible refine LeO.ite ?_ ?_)
   | (with_reducible refine LeO.bind ?_ (fun _=>?_))
   | exact impl_signs.mono _ _
   | exact LeO.none _
   | refine LeO.ite ?_ ?_
   | refine LeO.bind ?_ (fun _=>?_)
set_option maxHeartbeats 8000000 in
set_option maxRecDepth 100000 in
theorem impl_setOf.calls (k:Nat) (a0:ByteArray) (r1:List Bool) (r2:List Bool) (r3:Bool) (w:World) (h:impl_setOf.f k a0 = some (r1,r2,r3)) :
  Calls Try.prog 20 #[.string a0] w fun e w'=>∃ v0_ v1_:Value,e = .returned (.tuple #[.agg #[v0_,v1_],.bool r3])∧Kd.R Kd.bool 4 w' w.heap.size (fun k_=>some k_ ≠ (v1_:Value).ownBlock) v0_ r1∧Kd.R Kd.bool 4 w' w.heap.size (fun k_=>some k_ ≠ (v0_:Value).ownBlock) v1_ r2∧Below w.heap.size w w':=by
 have hu45:=Try.underlying45
 have HB:=Aside0.mk (Below.refl w.heap.size w)
 have H:((strings_Cut.f a0 (⟨#[40]⟩:ByteArray)).bind fun bt159=>((strings_CutSuffix.f bt159.2.1 (⟨#[41]⟩:ByteArray)).bind fun bt162=>((impl_signs.f k bt159.1).bind fun bt164=>((impl_signs.f k bt162.1).bind fun bt168=>(if bt159.2.2 = true then (if bt162.2 = true then (if bt164.2 = true then (if bt168.2 = true then (some (bt164.1,bt168.1,decide ((bt168.1.length:Int) > 0))) else (some (bt164.1,bt168.1,false))) else (some (bt164.1,bt168.1,false))) else (some (bt164.1,bt168.1,false))) else (some (bt164.1,bt168.1,false))))))) = some (r1,r2,r3):=h
 clear h
 replace H:=Option.bind_eq_some_iff.mp H
 obtain ⟨⟨t159,t160,t161⟩,A20,H⟩:=H
 replace H:((strings_CutSuffix.f t160 (⟨#[41]⟩:ByteArray)).bind fun bt162=>((impl_signs.f k t159).bind fun bt164=>((impl_signs.f k bt162.1).bind fun bt168=>(if t161 = true then (if bt162.2 = true then (if bt164.2 = true then (if bt168.2 = true then (some (bt164.1,bt168.1,decide ((bt168.1.length:Int) > 0))) else (some (bt164.1,bt168.1,false))) else (some (bt164.1,bt168.1,false))) else (some (bt164.1,bt168.1,false))) else (some (bt164.1,bt168.1,false)))))) = some (r1,r2,r3):=H
 have A2:=Aside0.mk A20
 clear A20
 replace H:=Option.bind_eq_some_iff.mp H
 obtain ⟨⟨t162,t163⟩,A30,H⟩:=H
 replace H:((impl_signs.f k t159).bind fun bt164=>((impl_signs.f k t162).bind fun bt168=>(if t161 = true then (if t163 = true then (if bt164.2 = true then (if bt168.2 = true then (some (bt164.1,bt168.1,decide ((bt168.1.length:Int) > 0))) else (some (bt164.1,bt168.1,false))) else (some (bt164.1,bt168.1,false))) else (some (bt164.1,bt168.1,false))) else (some (bt164.1,bt168.1,false))))) = some (r1,r2,r3):=H
 have A3:=Aside0.mk A30
 clear A30
 replace H:=Option.bind_eq_some_iff.mp H
 obtain ⟨⟨t164,t165⟩,A40,H⟩:=H
 replace H:((impl_signs.f k t162).bind fun bt168=>(if t161 = true then (if t163 = true then (if t165 = true then (if bt168.2 = true then (some (t164,bt168.1,decide ((bt168.1.length:Int) > 0))) else (some (t164,bt168.1,false))) else (some (t164,bt168.1,false))) else (some (t164,bt168.1,false))) else (some (t164,bt168.1,false)))) = some (r1,r2,r3):=H
 have A4:=Aside0.mk A40
 clear A40
 replace H:=Option.bind_eq_some_iff.mp H
 obtain ⟨⟨t168,t169⟩,A50,H⟩:=H
 replace H:(if t161 = true then (if t163 = true then (if t165 = true then (if t169 = true then (some (t164,t168,decide ((t168.length:Int) > 0))) else (some (t164,t168,false))) else (some (t164,t168,false))) else (some (t164,t168,false))) else (some (t164,t168,false))) = some (r1,r2,r3):=H
 have A5:=Aside0.mk A50
 clear A50
 by_cases c6:t161 = true
 ·subst c6
  have H1:(if t163 = true then (if t165 = true then (if t169 = true then (some (t164,t168,decide ((t168.length:Int) > 0))) else (some (t164,t168,false))) else (some (t164,t168,false))) else (some (t164,t168,false))) = some (r1,r2,r3):=by rw [if_pos rfl] at H;exact H
  clear H
  have H:=H1
  clear H1
  by_cases c7:t163 = true
  ·subst c7
   have H1:(if t165 = true then (if t169 = true then (some (t164,t168,decide ((t168.length:Int) > 0))) else (some (t164,t168,false))) else (some (t164,t168,false))) = some (r1,r2,r3):=by rw [if_pos rfl] at H;exact H
   clear H
   have H:=H1
   clear H1
   by_cases c8:t165 = true
   ·subst c8
    have H1:(if t169 = true then (some (t164,t168,decide ((t168.length:Int) > 0))) else (some (t164,t168,false))) = some (r1,r2,r3):=by rw [if_pos rfl] at H;exact H
    clear H
    have H:=H1
    clear H1
    by_cases c9:t169 = true
    ·subst c9
     have H1:(some (t164,t168,decide ((t168.length:Int) > 0))) = some (r1,r2,r3):=by rw [if_pos rfl] at H;exact H
     clear H
     have H:=H1
     clear H1
     simp only [Option.some.injEq,Prod.mk.injEq] at H
     obtain ⟨rfl,rfl,rfl⟩:=H
     go_enter Try.func20,Try.ntmps20
     go_wp2_with (first|((with_reducible refine gate_dst (N:=2) rfl ?_);(try (refine gate_guard (by rfl) ?_;dsimp only));refine box_event ?hg (N:=2) ?hd (cs:=#[.slice none 0 0,.slice none 0 0]) (t:=45) ?hr ?_;(case hd=>rfl);(case hg=>rfl);(case hr=>first|(go_simp;done)|(go_simp;rfl));intro gb158 hg w10 hbox hb;have n0_:=Aside0.mk (below_step (by repeat (first|(with_reducible first|exact HB.out|apply below_alloc|apply pw_below_drewN|apply below_drew1)|exact HB.out)) hb);have n1_:=Aside0.mk (hbox);have n2_:=Aside0.mk ((by rw [hg];exact (below_size (by repeat (first|(with_reducible first|exact HB.out|apply below_alloc|apply pw_below_drewN|apply below_drew1)|exact HB.out))):w.heap.size≤gb158));have n3_:=Aside0.mk ((by rw [hg];exact (below_size (by repeat (first|(with_reducible first|exact HB.out|apply below_alloc|apply pw_below_drewN|apply below_drew1)|exact HB.out))):w.heap.size≤gb158));clear HB;have HB:=n0_;have BK158:=n1_;have GW158:=n2_;have GE158:=n3_;clear n0_ n1_ n2_ n3_;clear hb hbox hg)|((with_reducible refine gate_callee (f:=30) rfl ?_);refine goesL_ (some 15) rfl rfl Try.func30 (by kernel_rfl) rfl #[.string a0,.string (⟨#[40]⟩:ByteArray)] rfl (by (try simp only [List.map_toArray,List.map_cons,List.map_nil]);first|done|rfl|(simp only [List.length_drop,List.length_take];rfl)) ?_;(with_reducible refine (strings_Cut.calls a0 (⟨#[40]⟩:ByteArray) t159 t160 true _ A2.out).mono ?_);rintro e w' ⟨rfl,⟨nd,rfl⟩⟩;refine ⟨_,rfl,?_⟩;(try (rw [drewN_self w10];generalize hq_:World.drewN w10 _ = w10;have n0_:Aside0 (w10.heap[gb158]? = some (.cells #[.slice none 0 0,.slice none 0 0] 45 (0,0))):=⟨by rw [← hq_];exact (by (with_reducible repeat (first|refine blk_drewN ?_ _|refine blk_drew ?_|refine blk_alloc ?_ _));exact BK158.out)⟩;have n1_:Aside0 (Below w.heap.size w w10):=⟨by rw [← hq_];exact (by repeat (first|(with_reducible first|exact HB.out|apply below_alloc|apply pw_below_drewN|apply below_drew1|refine below_set ?_ GE158.out)|exact HB.out))⟩;clear BK158 HB hq_;have BK158:=n0_;have HB:=n1_;clear n0_ n1_)))|((with_reducible refine gate_callee (f:=31) rfl ?_);refine goesL_ (some 21) rfl rfl Try.func31 (by kernel_rfl) rfl #[.string t160,.string (⟨#[41]⟩:ByteArray)] rfl (by (try simp only [List.map_toArray,List.map_cons,List.map_nil]);first|done|rfl|(simp only [List.length_drop,List.length_take];rfl)) ?_;(with_reducible refine (strings_CutSuffix.calls t160 (⟨#[41]⟩:ByteArray) t162 true _ A3.out).mono ?_);rintro e w' ⟨rfl,⟨nd,rfl⟩⟩;refine ⟨_,rfl,?_⟩;(try (rw [drewN_self w10];generalize hq_:World.drewN w10 _ = w10;have n0_:Aside0 (w10.heap[gb158]? = some (.cells #[.slice none 0 0,.slice none 0 0] 45 (0,0))):=⟨by rw [← hq_];exact (by (with_reducible repeat (first|refine blk_drewN ?_ _|refine blk_drew ?_|refine blk_alloc ?_ _));exact BK158.out)⟩;have n1_:Aside0 (Below w.heap.size w w10):=⟨by rw [← hq_];exact (by repeat (first|(with_reducible first|exact HB.out|apply below_alloc|apply pw_below_drewN|apply below_drew1|refine below_set ?_ GE158.out)|exact HB.out))⟩;clear BK158 HB hq_;have BK158:=n0_;have HB:=n1_;clear n0_ n1_)))|((with_reducible refine gate_callee (f:=32) rfl ?_);refine goesL_ (some 26) rfl rfl Try.func32 (by kernel_rfl) rfl #[.string t159] rfl (by (try simp only [List.map_toArray,List.map_cons,List.map_nil]);first|done|rfl|(simp only [List.length_drop,List.length_take];rfl)) ?_;(with_reducible refine (impl_signs.calls k t159 t164 true _ A4.out).mono ?_);rintro e w11 ⟨v166,rfl,ho0,hb⟩;refine ⟨_,rfl,?_⟩;have n0_:=Aside0.mk (Kd.R_lower ho0 (below_size (by repeat (first|(with_reducible first|exact HB.out|apply below_alloc|apply pw_below_drewN|apply below_drew1|refine below_set ?_ GE158.out)|exact HB.out))));have n1_:=Aside0.mk (blk_below (g:=gb158) (o:=.cells #[.slice none 0 0,.slice none 0 0] 45 (0,0)) (by (with_reducible repeat (first|refine blk_drewN ?_ _|refine blk_drew ?_|refine blk_alloc ?_ _));exact BK158.out) hb);have n2_:=Aside0.mk (below_step (by repeat (first|(with_reducible first|exact HB.out|apply below_alloc|apply pw_below_drewN|apply below_drew1|refine below_set ?_ GE158.out)|exact HB.out)) hb);clear BK158;clear HB;have HO167:=n0_;have BK158:=n1_;have HB:=n2_;clear n0_ n1_ n2_;(try clear hb);(try clear hb2);(try clear hk);(try clear hi);(try clear ho0))|((with_reducible refine gate_callee (f:=32) rfl ?_);refine goesL_ (some 31) rfl rfl Try.func32 (by kernel_rfl) rfl #[.string t162] rfl (by (try simp only [List.map_toArray,List.map_cons,List.map_nil]);first|done|rfl|(simp only [List.length_drop,List.length_take];rfl)) ?_;(with_reducible refine (impl_signs.calls k t162 t168 true _ A5.out).mono ?_);rintro e w12 ⟨v170,rfl,ho0,hb⟩;refine ⟨_,rfl,?_⟩;have n0_:=Aside0.mk (Kd.R_elder' (by (with_reducible repeat (first|apply Kd.R_alloc|apply Kd.R_drewN|apply Kd.R_drew));exact HO167.out) (Kd.R_base ho0) hb);have n1_:=Aside0.mk (Kd.R_lower (Kd.R_new' ho0 (Kd.R_lt (by (with_reducible repeat (first|apply Kd.R_alloc|apply Kd.R_drewN|apply Kd.R_drew));exact HO167.out))) (below_size (by repeat (first|(with_reducible first|exact HB.out|apply below_alloc|apply pw_below_drewN|apply below_drew1|refine below_set ?_ GE158.out)|exact HB.out))));have n2_:=Aside0.mk (blk_below (g:=gb158) (o:=.cells #[.slice none 0 0,.slice none 0 0] 45 (0,0)) (by (with_reducible repeat (first|refine blk_drewN ?_ _|refine blk_drew ?_|refine blk_alloc ?_ _));exact BK158.out) hb);have n3_:=Aside0.mk (below_step (by repeat (first|(with_reducible first|exact HB.out|apply below_alloc|apply pw_below_drewN|apply below_drew1|refine below_set ?_ GE158.out)|exact HB.out)) hb);clear HO167;clear BK158;clear HB;have HO167:=n0_;have HO171:=n1_;have BK158:=n2_;have HB:=n3_;clear n0_ n1_ n2_ n3_;(try clear hb);(try clear hb2);(try clear hk);(try clear hi);(try clear ho0);obtain ⟨Ao13,co13,eo13⟩:=Kd.R_slice HO171.out;subst eo13;obtain ⟨Ao14,co14,eo14⟩:=Kd.R_slice HO167.out;subst eo14;have hcz15_0:w12.cell? ⟨gb158,0,none⟩ = some (.slice none 0 0):=(blk_cell BK158.out 0).trans rfl;have hcz15_1:w12.cell? ⟨gb158,1,none⟩ = some (.slice none 0 0):=(blk_cell BK158.out 1).trans rfl;have hfz15_0:=blk_frozen BK158.out 0;have hfz15_1:=blk_frozen BK158.out 1))
     refine bodyPost_ret (results_ct rfl _ _ gb158 45 #[.slice Ao14 t164.length co14,.slice Ao13 t168.length co13] (0,0) _ rfl (by (with_reducible repeat (first|refine blk_drewN ?_ _|refine blk_drew ?_|refine blk_alloc ?_ _));refine blk_put (cs:=#[.slice Ao14 t164.length co14,.slice none 0 0]) ?_ 1 _ rfl;(with_reducible repeat (first|refine blk_drewN ?_ _|refine blk_drew ?_|refine blk_alloc ?_ _));refine blk_put (cs:=#[.slice none 0 0,.slice none 0 0]) ?_ 0 _ rfl;(with_reducible repeat (first|refine blk_drewN ?_ _|refine blk_drew ?_|refine blk_alloc ?_ _));exact BK158.out) Try.underlying45 rfl (by kernel_rfl)) rfl ?_
     exact ⟨_,_,by first|rfl|(simp [errW_none,errW_some] <;> rfl)|(simp [*,errW_none,errW_some] <;> rfl)|(simp [errW_none,errW_some];exact ⟨rfl,rfl⟩),by (with_reducible repeat (first|apply Kd.R_alloc|apply Kd.R_drewN|apply Kd.R_drew));exact Kd.R_mono (Kd.R_far (p:=⟨gb158,1,none⟩) (Kd.R_far (p:=⟨gb158,0,none⟩) (Kd.R_types HO167.out BK158.out (by decide)) (fun _ hk=>hk.2) (.slice Ao14 t164.length co14)) (fun _ hk=>hk.2) (.slice Ao13 t168.length co13)) (fun _ hk=>hk.1.2),by (with_reducible repeat (first|apply Kd.R_alloc|apply Kd.R_drewN|apply Kd.R_drew));exact Kd.R_mono (Kd.R_far (p:=⟨gb158,1,none⟩) (Kd.R_far (p:=⟨gb158,0,none⟩) (Kd.R_types HO171.out BK158.out (by decide)) (fun _ hk=>hk.2) (.slice Ao14 t164.length co14)) (fun _ hk=>hk.2) (.slice Ao13 t168.length co13)) (fun _ hk=>hk.1.2),by repeat (first|(with_reducible first|exact HB.out|apply below_alloc|apply pw_below_drewN|apply below_drew1|refine below_set ?_ GE158.out)|exact HB.out)⟩
    ·replace c9:=Bool.eq_false_iff.mpr c9
     subst c9
     have H1:(some (t164,t168,false)) = some (r1,r2,r3):=by rw [if_neg (show ¬ (false = true) by decide)] at H;exact H
     clear H
     have H:=H1
     clear H1
     simp only [Option.some.injEq,Prod.mk.injEq] at H
     obtain ⟨rfl,rfl,rfl⟩:=H
     go_enter Try.func20,Try.ntmps20
     go_wp2_with (first|((with_reducible refine gate_dst (N:=2) rfl ?_);(try (refine gate_guard (by rfl) ?_;dsimp only));refine box_event ?hg (N:=2) ?hd (cs:=#[.slice none 0 0,.slice none 0 0]) (t:=45) ?hr ?_;(case hd=>rfl);(case hg=>rfl);(case hr=>first|(go_simp;done)|(go_simp;rfl));intro gb158 hg w16 hbox hb;have n0_:=Aside0.mk (below_step (by repeat (first|(with_reducible first|exact HB.out|apply below_alloc|apply pw_below_drewN|apply below_drew1)|exact HB.out)) hb);have n1_:=Aside0.mk (hbox);have n2_:=Aside0.mk ((by rw [hg];exact (below_size (by repeat (first|(with_reducible first|exact HB.out|apply below_alloc|apply pw_below_drewN|apply below_drew1)|exact HB.out))):w.heap.size≤gb158));have n3_:=Aside0.mk ((by rw [hg];exact (below_size (by repeat (first|(with_reducible first|exact HB.out|apply below_alloc|apply pw_below_drewN|apply below_drew1)|exact HB.out))):w.heap.size≤gb158));clear HB;have HB:=n0_;have BK158:=n1_;have GW158:=n2_;have GE158:=n3_;clear n0_ n1_ n2_ n3_;clear hb hbox hg)|((with_reducible refine gate_callee (f:=30) rfl ?_);refine goesL_ (some 15) rfl rfl Try.func30 (by kernel_rfl) rfl #[.string a0,.string (⟨#[40]⟩:ByteArray)] rfl (by (try simp only [List.map_toArray,List.map_cons,List.map_nil]);first|done|rfl|(simp only [List.length_drop,List.length_take];rfl)) ?_;(with_reducible refine (strings_Cut.calls a0 (⟨#[40]⟩:ByteArray) t159 t160 true _ A2.out).mono ?_);rintro e w' ⟨rfl,⟨nd,rfl⟩⟩;refine ⟨_,rfl,?_⟩;(try (rw [drewN_self w16];generalize hq_:World.drewN w16 _ = w16;have n0_:Aside0 (w16.heap[gb158]? = some (.cells #[.slice none 0 0,.slice none 0 0] 45 (0,0))):=⟨by rw [← hq_];exact (by (with_reducible repeat (first|refine blk_drewN ?_ _|refine blk_drew ?_|refine blk_alloc ?_ _));exact BK158.out)⟩;have n1_:Aside0 (Below w.heap.size w w16):=⟨by rw [← hq_];exact (by repeat (first|(with_reducible first|exact HB.out|apply below_alloc|apply pw_below_drewN|apply below_drew1|refine below_set ?_ GE158.out)|exact HB.out))⟩;clear BK158 HB hq_;have BK158:=n0_;have HB:=n1_;clear n0_ n1_)))|((with_reducible refine gate_callee (f:=31) rfl ?_);refine goesL_ (some 21) rfl rfl Try.func31 (by kernel_rfl) rfl #[.string t160,.string (⟨#[41]⟩:ByteArray)] rfl (by (try simp only [List.map_toArray,List.map_cons,List.map_nil]);first|done|rfl|(simp only [List.length_drop,List.length_take];rfl)) ?_;(with_reducible refine (strings_CutSuffix.calls t160 (⟨#[41]⟩:ByteArray) t162 true _ A3.out).mono ?_);rintro e w' ⟨rfl,⟨nd,rfl⟩⟩;refine ⟨_,rfl,?_⟩;(try (rw [drewN_self w16];generalize hq_:World.drewN w16 _ = w16;have n0_:Aside0 (w16.heap[gb158]? = some (.cells #[.slice none 0 0,.slice none 0 0] 45 (0,0))):=⟨by rw [← hq_];exact (by (with_reducible repeat (first|refine blk_drewN ?_ _|refine blk_drew ?_|refine blk_alloc ?_ _));exact BK158.out)⟩;have n1_:Aside0 (Below w.heap.size w w16):=⟨by rw [← hq_];exact (by repeat (first|(with_reducible first|exact HB.out|apply below_alloc|apply pw_below_drewN|apply below_drew1|refine below_set ?_ GE158.out)|exact HB.out))⟩;clear BK158 HB hq_;have BK158:=n0_;have HB:=n1_;clear n0_ n1_)))|((with_reducible refine gate_callee (f:=32) rfl ?_);refine goesL_ (some 26) rfl rfl Try.func32 (by kernel_rfl) rfl #[.string t159] rfl (by (try simp only [List.map_toArray,List.map_cons,List.map_nil]);first|done|rfl|(simp only [List.length_drop,List.length_take];rfl)) ?_;(with_reducible refine (impl_signs.calls k t159 t164 true _ A4.out).mono ?_);rintro e w17 ⟨v166,rfl,ho0,hb⟩;refine ⟨_,rfl,?_⟩;have n0_:=Aside0.mk (Kd.R_lower ho0 (below_size (by repeat (first|(with_reducible first|exact HB.out|apply below_alloc|apply pw_below_drewN|apply below_drew1|refine below_set ?_ GE158.out)|exact HB.out))));have n1_:=Aside0.mk (blk_below (g:=gb158) (o:=.cells #[.slice none 0 0,.slice none 0 0] 45 (0,0)) (by (with_reducible repeat (first|refine blk_drewN ?_ _|refine blk_drew ?_|refine blk_alloc ?_ _));exact BK158.out) hb);have n2_:=Aside0.mk (below_step (by repeat (first|(with_reducible first|exact HB.out|apply below_alloc|apply pw_below_drewN|apply below_drew1|refine below_set ?_ GE158.out)|exact HB.out)) hb);clear BK158;clear HB;have HO167:=n0_;have BK158:=n1_;have HB:=n2_;clear n0_ n1_ n2_;(try clear hb);(try clear hb2);(try clear hk);(try clear hi);(try clear ho0))|((with_reducible refine gate_callee (f:=32) rfl ?_);refine goesL_ (some 31) rfl rfl Try.func32 (by kernel_rfl) rfl #[.string t162] rfl (by (try simp only [List.map_toArray,List.map_cons,List.map_nil]);first|done|rfl|(simp only [List.length_drop,List.length_take];rfl)) ?_;(with_reducible refine (impl_signs.calls k t162 t168 false _ A5.out).mono ?_);rintro e w18 ⟨v170,rfl,ho0,hb⟩;refine ⟨_,rfl,?_⟩;have n0_:=Aside0.mk (Kd.R_elder' (by (with_reducible repeat (first|apply Kd.R_alloc|apply Kd.R_drewN|apply Kd.R_drew));exact HO167.out) (Kd.R_base ho0) hb);have n1_:=Aside0.mk (Kd.R_lower (Kd.R_new' ho0 (Kd.R_lt (by (with_reducible repeat (first|apply Kd.R_alloc|apply Kd.R_drewN|apply Kd.R_drew));exact HO167.out))) (below_size (by repeat (first|(with_reducible first|exact HB.out|apply below_alloc|apply pw_below_drewN|apply below_drew1|refine below_set ?_ GE158.out)|exact HB.out))));have n2_:=Aside0.mk (blk_below (g:=gb158) (o:=.cells #[.slice none 0 0,.slice none 0 0] 45 (0,0)) (by (with_reducible repeat (first|refine blk_drewN ?_ _|refine blk_drew ?_|refine blk_alloc ?_ _));exact BK158.out) hb);have n3_:=Aside0.mk (below_step (by repeat (first|(with_reducible first|exact HB.out|apply below_alloc|apply pw_below_drewN|apply below_drew1|refine below_set ?_ GE158.out)|exact HB.out)) hb);clear HO167;clear BK158;clear HB;have HO167:=n0_;have HO171:=n1_;have BK158:=n2_;have HB:=n3_;clear n0_ n1_ n2_ n3_;(try clear hb);(try clear hb2);(try clear hk);(try clear hi);(try clear ho0);obtain ⟨Ao19,co19,eo19⟩:=Kd.R_slice HO171.out;subst eo19;obtain ⟨Ao20,co20,eo20⟩:=Kd.R_slice HO167.out;subst eo20;have hcz21_0:w18.cell? ⟨gb158,0,none⟩ = some (.slice none 0 0):=(blk_cell BK158.out 0).trans rfl;have hcz21_1:w18.cell? ⟨gb158,1,none⟩ = some (.slice none 0 0):=(blk_cell BK158.out 1).trans rfl;have hfz21_0:=blk_frozen BK158.out 0;have hfz21_1:=blk_frozen BK158.out 1))
     refine bodyPost_ret (results_ct rfl _ _ gb158 45 #[.slice Ao20 t164.length co20,.slice Ao19 t168.length co19] (0,0) _ rfl (by (with_reducible repeat (first|refine blk_drewN ?_ _|refine blk_drew ?_|refine blk_alloc ?_ _));refine blk_put (cs:=#[.slice Ao20 t164.length co20,.slice none 0 0]) ?_ 1 _ rfl;(with_reducible repeat (first|refine blk_drewN ?_ _|refine blk_drew ?_|refine blk_alloc ?_ _));refine blk_put (cs:=#[.slice none 0 0,.slice none 0 0]) ?_ 0 _ rfl;(with_reducible repeat (first|refine blk_drewN ?_ _|refine blk_drew ?_|refine blk_alloc ?_ _));exact BK158.out) Try.underlying45 rfl (by kernel_rfl)) rfl ?_
     exact ⟨_,_,by first|rfl|(simp [errW_none,errW_some] <;> rfl)|(simp [*,errW_none,errW_some] <;> rfl)|(simp [errW_none,errW_some];exact ⟨rfl,rfl⟩),by (with_reducible repeat (first|apply Kd.R_alloc|apply Kd.R_drewN|apply Kd.R_drew));exact Kd.R_mono (Kd.R_far (p:=⟨gb158,1,none⟩) (Kd.R_far (p:=⟨gb158,0,none⟩) (Kd.R_types HO167.out BK158.out (by decide)) (fun _ hk=>hk.2) (.slice Ao20 t164.length co20)) (fun _ hk=>hk.2) (.slice Ao19 t168.length co19)) (fun _ hk=>hk.1.2),by (with_reducible repeat (first|apply Kd.R_alloc|apply Kd.R_drewN|apply Kd.R_drew));exact Kd.R_mono (Kd.R_far (p:=⟨gb158,1,none⟩) (Kd.R_far (p:=⟨gb158,0,none⟩) (Kd.R_types HO171.out BK158.out (by decide)) (fun _ hk=>hk.2) (.slice Ao20 t164.length co20)) (fun _ hk=>hk.2) (.slice Ao19 t168.length co19)) (fun _ hk=>hk.1.2),by repeat (first|(with_reducible first|exact HB.out|apply below_alloc|apply pw_below_drewN|apply below_drew1|refine below_set ?_ GE158.out)|exact HB.out)⟩
   ·replace c8:=Bool.eq_false_iff.mpr c8
    subst c8
    have H1:(some (t164,t168,false)) = some (r1,r2,r3):=by rw [if_neg (show ¬ (false = true) by decide)] at H;exact H
    clear H
    have H:=H1
    clear H1
    simp only [Option.some.injEq,Prod.mk.injEq] at H
    obtain ⟨rfl,rfl,rfl⟩:=H
    go_enter Try.func20,Try.ntmps20
    go_wp2_with (first|((with_reducible refine gate_dst (N:=2) rfl ?_);(try (refine gate_guard (by rfl) ?_;dsimp only));refine box_event ?hg (N:=2) ?hd (cs:=#[.slice none 0 0,.slice none 0 0]) (t:=45) ?hr ?_;(case hd=>rfl);(case hg=>rfl);(case hr=>first|(go_simp;done)|(go_simp;rfl));intro gb158 hg w22 hbox hb;have n0_:=Aside0.mk (below_step (by repeat (first|(with_reducible first|exact HB.out|apply below_alloc|apply pw_below_drewN|apply below_drew1)|exact HB.out)) hb);have n1_:=Aside0.mk (hbox);have n2_:=Aside0.mk ((by rw [hg];exact (below_size (by repeat (first|(with_reducible first|exact HB.out|apply below_alloc|apply pw_below_drewN|apply below_drew1)|exact HB.out))):w.heap.size≤gb158));have n3_:=Aside0.mk ((by rw [hg];exact (below_size (by repeat (first|(with_reducible first|exact HB.out|apply below_alloc|apply pw_below_drewN|apply below_drew1)|exact HB.out))):w.heap.size≤gb158));clear HB;have HB:=n0_;have BK158:=n1_;have GW158:=n2_;have GE158:=n3_;clear n0_ n1_ n2_ n3_;clear hb hbox hg)|((with_reducible refine gate_callee (f:=30) rfl ?_);refine goesL_ (some 15) rfl rfl Try.func30 (by kernel_rfl) rfl #[.string a0,.string (⟨#[40]⟩:ByteArray)] rfl (by (try simp only [List.map_toArray,List.map_cons,List.map_nil]);first|done|rfl|(simp only [List.length_drop,List.length_take];rfl)) ?_;(with_reducible refine (strings_Cut.calls a0 (⟨#[40]⟩:ByteArray) t159 t160 true _ A2.out).mono ?_);rintro e w' ⟨rfl,⟨nd,rfl⟩⟩;refine ⟨_,rfl,?_⟩;(try (rw [drewN_self w22];generalize hq_:World.drewN w22 _ = w22;have n0_:Aside0 (w22.heap[gb158]? = some (.cells #[.slice none 0 0,.slice none 0 0] 45 (0,0))):=⟨by rw [← hq_];exact (by (with_reducible repeat (first|refine blk_drewN ?_ _|refine blk_drew ?_|refine blk_alloc ?_ _));exact BK158.out)⟩;have n1_:Aside0 (Below w.heap.size w w22):=⟨by rw [← hq_];exact (by repeat (first|(with_reducible first|exact HB.out|apply below_alloc|apply pw_below_drewN|apply below_drew1|refine below_set ?_ GE158.out)|exact HB.out))⟩;clear BK158 HB hq_;have BK158:=n0_;have HB:=n1_;clear n0_ n1_)))|((with_reducible refine gate_callee (f:=31) rfl ?_);refine goesL_ (some 21) rfl rfl Try.func31 (by kernel_rfl) rfl #[.string t160,.string (⟨#[41]⟩:ByteArray)] rfl (by (try simp only [List.map_toArray,List.map_cons,List.map_nil]);first|done|rfl|(simp only [List.length_drop,List.length_take];rfl)) ?_;(with_reducible refine (strings_CutSuffix.calls t160 (⟨#[41]⟩:ByteArray) t162 true _ A3.out).mono ?_);rintro e w' ⟨rfl,⟨nd,rfl⟩⟩;refine ⟨_,rfl,?_⟩;(try (rw [drewN_self w22];generalize hq_:World.drewN w22 _ = w22;have n0_:Aside0 (w22.heap[gb158]? = some (.cells #[.slice none 0 0,.slice none 0 0] 45 (0,0))):=⟨by rw [← hq_];exact (by (with_reducible repeat (first|refine blk_drewN ?_ _|refine blk_drew ?_|refine blk_alloc ?_ _));exact BK158.out)⟩;have n1_:Aside0 (Below w.heap.size w w22):=⟨by rw [← hq_];exact (by repeat (first|(with_reducible first|exact HB.out|apply below_alloc|apply pw_below_drewN|apply below_drew1|refine below_set ?_ GE158.out)|exact HB.out))⟩;clear BK158 HB hq_;have BK158:=n0_;have HB:=n1_;clear n0_ n1_)))|((with_reducible refine gate_callee (f:=32) rfl ?_);refine goesL_ (some 26) rfl rfl Try.func32 (by kernel_rfl) rfl #[.string t159] rfl (by (try simp only [List.map_toArray,List.map_cons,List.map_nil]);first|done|rfl|(simp only [List.length_drop,List.length_take];rfl)) ?_;(with_reducible refine (impl_signs.calls k t159 t164 false _ A4.out).mono ?_);rintro e w23 ⟨v166,rfl,ho0,hb⟩;refine ⟨_,rfl,?_⟩;have n0_:=Aside0.mk (Kd.R_lower ho0 (below_size (by repeat (first|(with_reducible first|exact HB.out|apply below_alloc|apply pw_below_drewN|apply below_drew1|refine below_set ?_ GE158.out)|exact HB.out))));have n1_:=Aside0.mk (blk_below (g:=gb158) (o:=.cells #[.slice none 0 0,.slice none 0 0] 45 (0,0)) (by (with_reducible repeat (first|refine blk_drewN ?_ _|refine blk_drew ?_|refine blk_alloc ?_ _));exact BK158.out) hb);have n2_:=Aside0.mk (below_step (by repeat (first|(with_reducible first|exact HB.out|apply below_alloc|apply pw_below_drewN|apply below_drew1|refine below_set ?_ GE158.out)|exact HB.out)) hb);clear BK158;clear HB;have HO167:=n0_;have BK158:=n1_;have HB:=n2_;clear n0_ n1_ n2_;(try clear hb);(try clear hb2);(try clear hk);(try clear hi);(try clear ho0))|((with_reducible refine gate_callee (f:=32) rfl ?_);refine goesL_ (some 31) rfl rfl Try.func32 (by kernel_rfl) rfl #[.string t162] rfl (by (try simp only [List.map_toArray,List.map_cons,List.map_nil]);first|done|rfl|(simp only [List.length_drop,List.length_take];rfl)) ?_;(with_reducible refine (impl_signs.calls k t162 t168 t169 _ A5.out).mono ?_);rintro e w24 ⟨v170,rfl,ho0,hb⟩;refine ⟨_,rfl,?_⟩;have n0_:=Aside0.mk (Kd.R_elder' (by (with_reducible repeat (first|apply Kd.R_alloc|apply Kd.R_drewN|apply Kd.R_drew));exact HO167.out) (Kd.R_base ho0) hb);have n1_:=Aside0.mk (Kd.R_lower (Kd.R_new' ho0 (Kd.R_lt (by (with_reducible repeat (first|apply Kd.R_alloc|apply Kd.R_drewN|apply Kd.R_drew));exact HO167.out))) (below_size (by repeat (first|(with_reducible first|exact HB.out|apply below_alloc|apply pw_below_drewN|apply below_drew1|refine below_set ?_ GE158.out)|exact HB.out))));have n2_:=Aside0.mk (blk_below (g:=gb158) (o:=.cells #[.slice none 0 0,.slice none 0 0] 45 (0,0)) (by (with_reducible repeat (first|refine blk_drewN ?_ _|refine blk_drew ?_|refine blk_alloc ?_ _));exact BK158.out) hb);have n3_:=Aside0.mk (below_step (by repeat (first|(with_reducible first|exact HB.out|apply below_alloc|apply pw_below_drewN|apply below_drew1|refine below_set ?_ GE158.out)|exact HB.out)) hb);clear HO167;clear BK158;clear HB;have HO167:=n0_;have HO171:=n1_;have BK158:=n2_;have HB:=n3_;clear n0_ n1_ n2_ n3_;(try clear hb);(try clear hb2);(try clear hk);(try clear hi);(try clear ho0);obtain ⟨Ao25,co25,eo25⟩:=Kd.R_slice HO171.out;subst eo25;obtain ⟨Ao26,co26,eo26⟩:=Kd.R_slice HO167.out;subst eo26;have hcz27_0:w24.cell? ⟨gb158,0,none⟩ = some (.slice none 0 0):=(blk_cell BK158.out 0).trans rfl;have hcz27_1:w24.cell? ⟨gb158,1,none⟩ = some (.slice none 0 0):=(blk_cell BK158.out 1).trans rfl;have hfz27_0:=blk_frozen BK158.out 0;have hfz27_1:=blk_frozen BK158.out 1))
    refine bodyPost_ret (results_ct rfl _ _ gb158 45 #[.slice Ao26 t164.length co26,.slice Ao25 t168.length co25] (0,0) _ rfl (by (with_reducible repeat (first|refine blk_drewN ?_ _|refine blk_drew ?_|refine blk_alloc ?_ _));refine blk_put (cs:=#[.slice Ao26 t164.length co26,.slice none 0 0]) ?_ 1 _ rfl;(with_reducible repeat (first|refine blk_drewN ?_ _|refine blk_drew ?_|refine blk_alloc ?_ _));refine blk_put (cs:=#[.slice none 0 0,.slice none 0 0]) ?_ 0 _ rfl;(with_reducible repeat (first|refine blk_drewN ?_ _|refine blk_drew ?_|refine blk_alloc ?_ _));exact BK158.out) Try.underlying45 rfl (by kernel_rfl)) rfl ?_
    exact ⟨_,_,by first|rfl|(simp [errW_none,errW_some] <;> rfl)|(simp [*,errW_none,errW_some] <;> rfl)|(simp [errW_none,errW_some];exact ⟨rfl,rfl⟩),by (with_reducible repeat (first|apply Kd.R_alloc|apply Kd.R_drewN|apply Kd.R_drew));exact Kd.R_mono (Kd.R_far (p:=⟨gb158,1,none⟩) (Kd.R_far (p:=⟨gb158,0,none⟩) (Kd.R_types HO167.out BK158.out (by decide)) (fun _ hk=>hk.2) (.slice Ao26 t164.length co26)) (fun _ hk=>hk.2) (.slice Ao25 t168.length co25)) (fun _ hk=>hk.1.2),by (with_reducible repeat (first|apply Kd.R_alloc|apply Kd.R_drewN|apply Kd.R_drew));exact Kd.R_mono (Kd.R_far (p:=⟨gb158,1,none⟩) (Kd.R_far (p:=⟨gb158,0,none⟩) (Kd.R_types HO171.out BK158.out (by decide)) (fun _ hk=>hk.2) (.slice Ao26 t164.length co26)) (fun _ hk=>hk.2) (.slice Ao25 t168.length co25)) (fun _ hk=>hk.1.2),by repeat (first|(with_reducible first|exact HB.out|apply below_alloc|apply pw_below_drewN|apply below_drew1|refine below_set ?_ GE158.out)|exact HB.out)⟩
  ·replace c7:=Bool.eq_false_iff.mpr c7
   subst c7
   have H1:(some (t164,t168,false)) = some (r1,r2,r3):=by rw [if_neg (show ¬ (false = true) by decide)] at H;exact H
   clear H
   have H:=H1
   clear H1
   simp only [Option.some.injEq,Prod.mk.injEq] at H
   obtain ⟨rfl,rfl,rfl⟩:=H
   go_enter Try.func20,Try.ntmps20
   go_wp2_with (first|((with_reducible refine gate_dst (N:=2) rfl ?_);(try (refine gate_guard (by rfl) ?_;dsimp only));refine box_event ?hg (N:=2) ?hd (cs:=#[.slice none 0 0,.slice none 0 0]) (t:=45) ?hr ?_;(case hd=>rfl);(case hg=>rfl);(case hr=>first|(go_simp;done)|(go_simp;rfl));intro gb158 hg w28 hbox hb;have n0_:=Aside0.mk (below_step (by repeat (first|(with_reducible first|exact HB.out|apply below_alloc|apply pw_below_drewN|apply below_drew1)|exact HB.out)) hb);have n1_:=Aside0.mk (hbox);have n2_:=Aside0.mk ((by rw [hg];exact (below_size (by repeat (first|(with_reducible first|exact HB.out|apply below_alloc|apply pw_below_drewN|apply below_drew1)|exact HB.out))):w.heap.size≤gb158));have n3_:=Aside0.mk ((by rw [hg];exact (below_size (by repeat (first|(with_reducible first|exact HB.out|apply below_alloc|apply pw_below_drewN|apply below_drew1)|exact HB.out))):w.heap.size≤gb158));clear HB;have HB:=n0_;have BK158:=n1_;have GW158:=n2_;have GE158:=n3_;clear n0_ n1_ n2_ n3_;clear hb hbox hg)|((with_reducible refine gate_callee (f:=30) rfl ?_);refine goesL_ (some 15) rfl rfl Try.func30 (by kernel_rfl) rfl #[.string a0,.string (⟨#[40]⟩:ByteArray)] rfl (by (try simp only [List.map_toArray,List.map_cons,List.map_nil]);first|done|rfl|(simp only [List.length_drop,List.length_take];rfl)) ?_;(with_reducible refine (strings_Cut.calls a0 (⟨#[40]⟩:ByteArray) t159 t160 true _ A2.out).mono ?_);rintro e w' ⟨rfl,⟨nd,rfl⟩⟩;refine ⟨_,rfl,?_⟩;(try (rw [drewN_self w28];generalize hq_:World.drewN w28 _ = w28;have n0_:Aside0 (w28.heap[gb158]? = some (.cells #[.slice none 0 0,.slice none 0 0] 45 (0,0))):=⟨by rw [← hq_];exact (by (with_reducible repeat (first|refine blk_drewN ?_ _|refine blk_drew ?_|refine blk_alloc ?_ _));exact BK158.out)⟩;have n1_:Aside0 (Below w.heap.size w w28):=⟨by rw [← hq_];exact (by repeat (first|(with_reducible first|exact HB.out|apply below_alloc|apply pw_below_drewN|apply below_drew1|refine below_set ?_ GE158.out)|exact HB.out))⟩;clear BK158 HB hq_;have BK158:=n0_;have HB:=n1_;clear n0_ n1_)))|((with_reducible refine gate_callee (f:=31) rfl ?_);refine goesL_ (some 21) rfl rfl Try.func31 (by kernel_rfl) rfl #[.string t160,.string (⟨#[41]⟩:ByteArray)] rfl (by (try simp only [List.map_toArray,List.map_cons,List.map_nil]);first|done|rfl|(simp only [List.length_drop,List.length_take];rfl)) ?_;(with_reducible refine (strings_CutSuffix.calls t160 (⟨#[41]⟩:ByteArray) t162 false _ A3.out).mono ?_);rintro e w' ⟨rfl,⟨nd,rfl⟩⟩;refine ⟨_,rfl,?_⟩;(try (rw [drewN_self w28];generalize hq_:World.drewN w28 _ = w28;have n0_:Aside0 (w28.heap[gb158]? = some (.cells #[.slice none 0 0,.slice none 0 0] 45 (0,0))):=⟨by rw [← hq_];exact (by (with_reducible repeat (first|refine blk_drewN ?_ _|refine blk_drew ?_|refine blk_alloc ?_ _));exact BK158.out)⟩;have n1_:Aside0 (Below w.heap.size w w28):=⟨by rw [← hq_];exact (by repeat (first|(with_reducible first|exact HB.out|apply below_alloc|apply pw_below_drewN|apply below_drew1|refine below_set ?_ GE158.out)|exact HB.out))⟩;clear BK158 HB hq_;have BK158:=n0_;have HB:=n1_;clear n0_ n1_)))|((with_reducible refine gate_callee (f:=32) rfl ?_);refine goesL_ (some 26) rfl rfl Try.func32 (by kernel_rfl) rfl #[.string t159] rfl (by (try simp only [List.map_toArray,List.map_cons,List.map_nil]);first|done|rfl|(simp only [List.length_drop,List.length_take];rfl)) ?_;(with_reducible refine (impl_signs.calls k t159 t164 t165 _ A4.out).mono ?_);rintro e w29 ⟨v166,rfl,ho0,hb⟩;refine ⟨_,rfl,?_⟩;have n0_:=Aside0.mk (Kd.R_lower ho0 (below_size (by repeat (first|(with_reducible first|exact HB.out|apply below_alloc|apply pw_below_drewN|apply below_drew1|refine below_set ?_ GE158.out)|exact HB.out))));have n1_:=Aside0.mk (blk_below (g:=gb158) (o:=.cells #[.slice none 0 0,.slice none 0 0] 45 (0,0)) (by (with_reducible repeat (first|refine blk_drewN ?_ _|refine blk_drew ?_|refine blk_alloc ?_ _));exact BK158.out) hb);have n2_:=Aside0.mk (below_step (by repeat (first|(with_reducible first|exact HB.out|apply below_alloc|apply pw_below_drewN|apply below_drew1|refine below_set ?_ GE158.out)|exact HB.out)) hb);clear BK158;clear HB;have HO167:=n0_;have BK158:=n1_;have HB:=n2_;clear n0_ n1_ n2_;(try clear hb);(try clear hb2);(try clear hk);(try clear hi);(try clear ho0))|((with_reducible refine gate_callee (f:=32) rfl ?_);refine goesL_ (some 31) rfl rfl Try.func32 (by kernel_rfl) rfl #[.string t162] rfl (by (try simp only [List.map_toArray,List.map_cons,List.map_nil]);first|done|rfl|(simp only [List.length_drop,List.length_take];rfl)) ?_;(with_reducible refine (impl_signs.calls k t162 t168 t169 _ A5.out).mono ?_);rintro e w30 ⟨v170,rfl,ho0,hb⟩;refine ⟨_,rfl,?_⟩;have n0_:=Aside0.mk (Kd.R_elder' (by (with_reducible repeat (first|apply Kd.R_alloc|apply Kd.R_drewN|apply Kd.R_drew));exact HO167.out) (Kd.R_base ho0) hb);have n1_:=Aside0.mk (Kd.R_lower (Kd.R_new' ho0 (Kd.R_lt (by (with_reducible repeat (first|apply Kd.R_alloc|apply Kd.R_drewN|apply Kd.R_drew));exact HO167.out))) (below_size (by repeat (first|(with_reducible first|exact HB.out|apply below_alloc|apply pw_below_drewN|apply below_drew1|refine below_set ?_ GE158.out)|exact HB.out))));have n2_:=Aside0.mk (blk_below (g:=gb158) (o:=.cells #[.slice none 0 0,.slice none 0 0] 45 (0,0)) (by (with_reducible repeat (first|refine blk_drewN ?_ _|refine blk_drew ?_|refine blk_alloc ?_ _));exact BK158.out) hb);have n3_:=Aside0.mk (below_step (by repeat (first|(with_reducible first|exact HB.out|apply below_alloc|apply pw_below_drewN|apply below_drew1|refine below_set ?_ GE158.out)|exact HB.out)) hb);clear HO167;clear BK158;clear HB;have HO167:=n0_;have HO171:=n1_;have BK158:=n2_;have HB:=n3_;clear n0_ n1_ n2_ n3_;(try clear hb);(try clear hb2);(try clear hk);(try clear hi);(try clear ho0);obtain ⟨Ao31,co31,eo31⟩:=Kd.R_slice HO171.out;subst eo31;obtain ⟨Ao32,co32,eo32⟩:=Kd.R_slice HO167.out;subst eo32;have hcz33_0:w30.cell? ⟨gb158,0,none⟩ = some (.slice none 0 0):=(blk_cell BK158.out 0).trans rfl;have hcz33_1:w30.cell? ⟨gb158,1,none⟩ = some (.slice none 0 0):=(blk_cell BK158.out 1).trans rfl;have hfz33_0:=blk_frozen BK158.out 0;have hfz33_1:=blk_frozen BK158.out 1))
   refine bodyPost_ret (results_ct rfl _ _ gb158 45 #[.slice Ao32 t164.length co32,.slice Ao31 t168.length co31] (0,0) _ rfl (by (with_reducible repeat (first|refine blk_drewN ?_ _|refine blk_drew ?_|refine blk_alloc ?_ _));refine blk_put (cs:=#[.slice Ao32 t164.length co32,.slice none 0 0]) ?_ 1 _ rfl;(with_reducible repeat (first|refine blk_drewN ?_ _|refine blk_drew ?_|refine blk_alloc ?_ _));refine blk_put (cs:=#[.slice none 0 0,.slice none 0 0]) ?_ 0 _ rfl;(with_reducible repeat (first|refine blk_drewN ?_ _|refine blk_drew ?_|refine blk_alloc ?_ _));exact BK158.out) Try.underlying45 rfl (by kernel_rfl)) rfl ?_
   exact ⟨_,_,by first|rfl|(simp [errW_none,errW_some] <;> rfl)|(simp [*,errW_none,errW_some] <;> rfl)|(simp [errW_none,errW_some];exact ⟨rfl,rfl⟩),by (with_reducible repeat (first|apply Kd.R_alloc|apply Kd.R_drewN|apply Kd.R_drew));exact Kd.R_mono (Kd.R_far (p:=⟨gb158,1,none⟩) (Kd.R_far (p:=⟨gb158,0,none⟩) (Kd.R_types HO167.out BK158.out (by decide)) (fun _ hk=>hk.2) (.slice Ao32 t164.length co32)) (fun _ hk=>hk.2) (.slice Ao31 t168.length co31)) (fun _ hk=>hk.1.2),by (with_reducible repeat (first|apply Kd.R_alloc|apply Kd.R_drewN|apply Kd.R_drew));exact Kd.R_mono (Kd.R_far (p:=⟨gb158,1,none⟩) (Kd.R_far (p:=⟨gb158,0,none⟩) (Kd.R_types HO171.out BK158.out (by decide)) (fun _ hk=>hk.2) (.slice Ao32 t164.length co32)) (fun _ hk=>hk.2) (.slice Ao31 t168.length co31)) (fun _ hk=>hk.1.2),by repeat (first|(with_reducible first|exact HB.out|apply below_alloc|apply pw_below_drewN|apply below_drew1|refine below_set ?_ GE158.out)|exact HB.out)⟩
 ·replace c6:=Bool.eq_false_iff.mpr c6
  subst c6
  have H1:(some (t164,t168,false)) = some (r1,r2,r3):=by rw [if_neg (show ¬ (false = true) by decide)] at H;exact H
  clear H
  have H:=H1
  clear H1
  simp only [Option.some.injEq,Prod.mk.injEq] at H
  obtain ⟨rfl,rfl,rfl⟩:=H
  go_enter Try.func20,Try.ntmps20
  go_wp2_with (first|((with_reducible refine gate_dst (N:=2) rfl ?_);(try (refine gate_guard (by rfl) ?_;dsimp only));refine box_event ?hg (N:=2) ?hd (cs:=#[.slice none 0 0,.slice none 0 0]) (t:=45) ?hr ?_;(case hd=>rfl);(case hg=>rfl);(case hr=>first|(go_simp;done)|(go_simp;rfl));intro gb158 hg w34 hbox hb;have n0_:=Aside0.mk (below_step (by repeat (first|(with_reducible first|exact HB.out|apply below_alloc|apply pw_below_drewN|apply below_drew1)|exact HB.out)) hb);have n1_:=Aside0.mk (hbox);have n2_:=Aside0.mk ((by rw [hg];exact (below_size (by repeat (first|(with_reducible first|exact HB.out|apply below_alloc|apply pw_below_drewN|apply below_drew1)|exact HB.out))):w.heap.size≤gb158));have n3_:=Aside0.mk ((by rw [hg];exact (below_size (by repeat (first|(with_reducible first|exact HB.out|apply below_alloc|apply pw_below_drewN|apply below_drew1)|exact HB.out))):w.heap.size≤gb158));clear HB;have HB:=n0_;have BK158:=n1_;have GW158:=n2_;have GE158:=n3_;clear n0_ n1_ n2_ n3_;clear hb hbox hg)|((with_reducible refine gate_callee (f:=30) rfl ?_);refine goesL_ (some 15) rfl rfl Try.func30 (by kernel_rfl) rfl #[.string a0,.string (⟨#[40]⟩:ByteArray)] rfl (by (try simp only [List.map_toArray,List.map_cons,List.map_nil]);first|done|rfl|(simp only [List.length_drop,List.length_take];rfl)) ?_;(with_reducible refine (strings_Cut.calls a0 (⟨#[40]⟩:ByteArray) t159 t160 false _ A2.out).mono ?_);rintro e w' ⟨rfl,⟨nd,rfl⟩⟩;refine ⟨_,rfl,?_⟩;(try (rw [drewN_self w34];generalize hq_:World.drewN w34 _ = w34;have n0_:Aside0 (w34.heap[gb158]? = some (.cells #[.slice none 0 0,.slice none 0 0] 45 (0,0))):=⟨by rw [← hq_];exact (by (with_reducible repeat (first|refine blk_drewN ?_ _|refine blk_drew ?_|refine blk_alloc ?_ _));exact BK158.out)⟩;have n1_:Aside0 (Below w.heap.size w w34):=⟨by rw [← hq_];exact (by repeat (first|(with_reducible first|exact HB.out|apply below_alloc|apply pw_below_drewN|apply below_drew1|refine below_set ?_ GE158.out)|exact HB.out))⟩;clear BK158 HB hq_;have BK158:=n0_;have HB:=n1_;clear n0_ n1_)))|((with_reducible refine gate_callee (f:=31) rfl ?_);refine goesL_ (some 21) rfl rfl Try.func31 (by kernel_rfl) rfl #[.string t160,.string (⟨#[41]⟩:ByteArray)] rfl (by (try simp only [List.map_toArray,List.map_cons,List.map_nil]);first|done|rfl|(simp only [List.length_drop,List.length_take];rfl)) ?_;(with_reducible refine (strings_CutSuffix.calls t160 (⟨#[41]⟩:ByteArray) t162 t163 _ A3.out).mono ?_);rintro e w' ⟨rfl,⟨nd,rfl⟩⟩;refine ⟨_,rfl,?_⟩;(try (rw [drewN_self w34];generalize hq_:World.drewN w34 _ = w34;have n0_:Aside0 (w34.heap[gb158]? = some (.cells #[.slice none 0 0,.slice none 0 0] 45 (0,0))):=⟨by rw [← hq_];exact (by (with_reducible repeat (first|refine blk_drewN ?_ _|refine blk_drew ?_|refine blk_alloc ?_ _));exact BK158.out)⟩;have n1_:Aside0 (Below w.heap.size w w34):=⟨by rw [← hq_];exact (by repeat (first|(with_reducible first|exact HB.out|apply below_alloc|apply pw_below_drewN|apply below_drew1|refine below_set ?_ GE158.out)|exact HB.out))⟩;clear BK158 HB hq_;have BK158:=n0_;have HB:=n1_;clear n0_ n1_)))|((with_reducible refine gate_callee (f:=32) rfl ?_);refine goesL_ (some 26) rfl rfl Try.func32 (by kernel_rfl) rfl #[.string t159] rfl (by (try simp only [List.map_toArray,List.map_cons,List.map_nil]);first|done|rfl|(simp only [List.length_drop,List.length_take];rfl)) ?_;(with_reducible refine (impl_signs.calls k t159 t164 t165 _ A4.out).mono ?_);rintro e w35 ⟨v166,rfl,ho0,hb⟩;refine ⟨_,rfl,?_⟩;have n0_:=Aside0.mk (Kd.R_lower ho0 (below_size (by repeat (first|(with_reducible first|exact HB.out|apply below_alloc|apply pw_below_drewN|apply below_drew1|refine below_set ?_ GE158.out)|exact HB.out))));have n1_:=Aside0.mk (blk_below (g:=gb158) (o:=.cells #[.slice none 0 0,.slice none 0 0] 45 (0,0)) (by (with_reducible repeat (first|refine blk_drewN ?_ _|refine blk_drew ?_|refine blk_alloc ?_ _));exact BK158.out) hb);have n2_:=Aside0.mk (below_step (by repeat (first|(with_reducible first|exact HB.out|apply below_alloc|apply pw_below_drewN|apply below_drew1|refine below_set ?_ GE158.out)|exact HB.out)) hb);clear BK158;clear HB;have HO167:=n0_;have BK158:=n1_;have HB:=n2_;clear n0_ n1_ n2_;(try clear hb);(try clear hb2);(try clear hk);(try clear hi);(try clear ho0))|((with_reducible refine gate_callee (f:=32) rfl ?_);refine goesL_ (some 31) rfl rfl Try.func32 (by kernel_rfl) rfl #[.string t162] rfl (by (try simp only [List.map_toArray,List.map_cons,List.map_nil]);first|done|rfl|(simp only [List.length_drop,List.length_take];rfl)) ?_;(with_reducible refine (impl_signs.calls k t162 t168 t169 _ A5.out).mono ?_);rintro e w36 ⟨v170,rfl,ho0,hb⟩;refine ⟨_,rfl,?_⟩;have n0_:=Aside0.mk (Kd.R_elder' (by (with_reducible repeat (first|apply Kd.R_alloc|apply Kd.R_drewN|apply Kd.R_drew));exact HO167.out) (Kd.R_base ho0) hb);have n1_:=Aside0.mk (Kd.R_lower (Kd.R_new' ho0 (Kd.R_lt (by (with_reducible repeat (first|apply Kd.R_alloc|apply Kd.R_drewN|apply Kd.R_drew));exact HO167.out))) (below_size (by repeat (first|(with_reducible first|exact HB.out|apply below_alloc|apply pw_below_drewN|apply below_drew1|refine below_set ?_ GE158.out)|exact HB.out))));have n2_:=Aside0.mk (blk_below (g:=gb158) (o:=.cells #[.slice none 0 0,.slice none 0 0] 45 (0,0)) (by (with_reducible repeat (first|refine blk_drewN ?_ _|refine blk_drew ?_|refine blk_alloc ?_ _));exact BK158.out) hb);have n3_:=Aside0.mk (below_step (by repeat (first|(with_reducible first|exact HB.out|apply below_alloc|apply pw_below_drewN|apply below_drew1|refine below_set ?_ GE158.out)|exact HB.out)) hb);clear HO167;clear BK158;clear HB;have HO167:=n0_;have HO171:=n1_;have BK158:=n2_;have HB:=n3_;clear n0_ n1_ n2_ n3_;(try clear hb);(try clear hb2);(try clear hk);(try clear hi);(try clear ho0);obtain ⟨Ao37,co37,eo37⟩:=Kd.R_slice HO171.out;subst eo37;obtain ⟨Ao38,co38,eo38⟩:=Kd.R_slice HO167.out;subst eo38;have hcz39_0:w36.cell? ⟨gb158,0,none⟩ = some (.slice none 0 0):=(blk_cell BK158.out 0).trans rfl;have hcz39_1:w36.cell? ⟨gb158,1,none⟩ = some (.slice none 0 0):=(blk_cell BK158.out 1).trans rfl;have hfz39_0:=blk_frozen BK158.out 0;have hfz39_1:=blk_frozen BK158.out 1))
  refine bodyPost_ret (results_ct rfl _ _ gb158 45 #[.slice Ao38 t164.length co38,.slice Ao37 t168.length co37] (0,0) _ rfl (by (with_reducible repeat (first|refine blk_drewN ?_ _|refine blk_drew ?_|refine blk_alloc ?_ _));refine blk_put (cs:=#[.slice Ao38 t164.length co38,.slice none 0 0]) ?_ 1 _ rfl;(with_reducible repeat (first|refine blk_drewN ?_ _|refine blk_drew ?_|refine blk_alloc ?_ _));refine blk_put (cs:=#[.slice none 0 0,.slice none 0 0]) ?_ 0 _ rfl;(with_reducible repeat (first|refine blk_drewN ?_ _|refine blk_drew ?_|refine blk_alloc ?_ _));exact BK158.out) Try.underlying45 rfl (by kernel_rfl)) rfl ?_
  exact ⟨_,_,by first|rfl|(simp [errW_none,errW_some] <;> rfl)|(simp [*,errW_none,errW_some] <;> rfl)|(simp [errW_none,errW_some];exact ⟨rfl,rfl⟩),by (with_reducible repeat (first|apply Kd.R_alloc|apply Kd.R_drewN|apply Kd.R_drew));exact Kd.R_mono (Kd.R_far (p:=⟨gb158,1,none⟩) (Kd.R_far (p:=⟨gb158,0,none⟩) (Kd.R_types HO167.out BK158.out (by decide)) (fun _ hk=>hk.2) (.slice Ao38 t164.length co38)) (fun _ hk=>hk.2) (.slice Ao37 t168.length co37)) (fun _ hk=>hk.1.2),by (with_reducible repeat (first|apply Kd.R_alloc|apply Kd.R_drewN|apply Kd.R_drew));exact Kd.R_mono (Kd.R_far (p:=⟨gb158,1,none⟩) (Kd.R_far (p:=⟨gb158,0,none⟩) (Kd.R_types HO171.out BK158.out (by decide)) (fun _ hk=>hk.2) (.slice Ao38 t164.length co38)) (fun _ hk=>hk.2) (.slice Ao37 t168.length co37)) (fun _ hk=>hk.1.2),by repeat (first|(with_reducible first|exact HB.out|apply below_alloc|apply pw_below_drewN|apply below_drew1|refine below_set ?_ GE158.out)|exact HB.out)⟩

end Go.Proofs.Ytmedlhoahddbmaa.P

namespace Go.Proofs.Ytmedlhoahddbmaa.P
open Go.RowKit Go.Proofs.YtmedlhoahddbmaaW.PrintWords Go.Proofs.YtmedlhoahddbmaaW.PrintLast Go.Proofs.YtmedlhoahddbmaaW.PrintMore
attribute [local go_sem] max2_int min2_int max_two min_two max_three min_three max_four min_four   -- for this text's walks alone
set_option linter.unusedVariables false
set_option linter.unusedSimpArgs false

/-! ### impl_SetEnds: function 9 -/
def impl_SetEnds.f (k:Nat) (a0:ByteArray):Option (Bool):=(impl_setOf.f k a0).bind fun bt315=>(if bt315.2.2 = true then ((slices_Contains_bool_bool.f k bt315.2.1 true).bind fun t323=>(some (!t323))) else (some false))
theorem impl_SetEnds.mono:∀ a0 k,LeO (impl_SetEnds.f k a0) (impl_SetEnds.f (k + 1) a0):=by
 intro a0 k
 unfold impl_SetEnds.f
 repeat' first
   | (with_reducible exact impl_setOf.mono _ _)
   | (with_reducible exact slices_Contains_bool_bool.mono _ _ _)
   | (with_reducible exact LeO.refl _)
   | (with_reducible exact LeO.none _)
   | (with_reducible refine LeO.ite ?_ ?_)
   | (with_reducible refine LeO.bind ?_ (fun _=>?_))
   | exact impl_setOf.mono _ _
   | exact slices_Contains_bool_bool.mono _ _ _
   | exact LeO.none _
   | refine LeO.ite ?_ ?_
   | refine LeO.bind ?_ (fun _=>?_)
set_option maxHeartbeats 8000000 in
set_option maxRecDepth 100000 in
theorem impl_SetEnds.calls (k:Nat) (a0:ByteArray) (r:Bool) (w:World) (h:impl_SetEnds.f k a0 = some r) :
  Calls Try.prog 9 #[.string a0] w fun e w'=>e = .returned (.bool r)∧Below w.heap.size w w':=by
 have hu45:=Try.underlying45
 have HB:=Aside0.mk (Below.refl w.heap.size w)
 have H:((impl_setOf.f k a0).bind fun bt315=>(if bt315.2.2 = true then ((slices_Contains_bool_bool.f k bt315.2.1 true).bind fun t323=>(some (!t323))) else (some false))) = some r:=h
 clear h
 replace H:=Option.bind_eq_some_iff.mp H
 obtain ⟨⟨t315,t318,t321⟩,A20,H⟩:=H
 replace H:(if t321 = true then ((slices_Contains_bool_bool.f k t318 true).bind fun t323=>(some (!t323))) else (some false)) = some r:=H
 have A2:=Aside0.mk A20
 clear A20
 by_cases c3:t321 = true
 ·subst c3
  have H1:((slices_Contains_bool_bool.f k t318 true).bind fun t323=>(some (!t323))) = some r:=by rw [if_pos rfl] at H;exact H
  clear H
  have H:=H1
  clear H1
  replace H:=Option.bind_eq_some_iff.mp H
  obtain ⟨t323,A40,H⟩:=H
  replace H:(some (!t323)) = some r:=H
  have A4:=Aside0.mk A40
  clear A40
  obtain rfl:=Option.some.inj H
  go_enter Try.func9,Try.ntmps9
  go_wp2_with (first|((with_reducible refine gate_callee (f:=20) rfl ?_);refine goesL_ (some 7) rfl rfl Try.func20 (by kernel_rfl) rfl #[.string a0] rfl (by (try simp only [List.map_toArray,List.map_cons,List.map_nil]);first|done|rfl|(simp only [List.length_drop,List.length_take];rfl)) ?_;(with_reducible refine (impl_setOf.calls k a0 t315 t318 true _ A2.out).mono ?_);rintro e w5 ⟨v316,v319,rfl,ho0,ho1,hb⟩;refine ⟨_,rfl,?_⟩;have n0_:=Aside0.mk (Kd.R_lower ho0 (below_size (by repeat (first|(with_reducible first|exact HB.out|apply below_alloc|apply pw_below_drewN|apply below_drew1)|exact HB.out))));have n1_:=Aside0.mk (Kd.R_lower ho1 (below_size (by repeat (first|(with_reducible first|exact HB.out|apply below_alloc|apply pw_below_drewN|apply below_drew1)|exact HB.out))));have n2_:=Aside0.mk (below_step (by repeat (first|(with_reducible first|exact HB.out|apply below_alloc|apply pw_below_drewN|apply below_drew1)|exact HB.out)) hb);clear HB;have HO317:=n0_;have HO320:=n1_;have HB:=n2_;clear n0_ n1_ n2_;(try clear hb);(try clear hb2);(try clear hk);(try clear hi);(try clear ho0);(try clear ho1))|((with_reducible refine gate_dst (N:=3) rfl ?_);refine box_event ?hg (N:=3) ?hd (cs:=#[.slice none 0 0,.slice none 0 0]) (t:=45) ?hr ?_;(case hd=>rfl);(case hg=>rfl);(case hr=>first|(go_simp;done)|(go_simp;rfl));intro gb322 hg w6 hbox hb;have n0_:=Aside0.mk (Kd.R_below (by (with_reducible repeat (first|apply Kd.R_alloc|apply Kd.R_drewN|apply Kd.R_drew));exact HO317.out) hb);have n1_:=Aside0.mk (Kd.R_below (by (with_reducible repeat (first|apply Kd.R_alloc|apply Kd.R_drewN|apply Kd.R_drew));exact HO320.out) hb);have n2_:=Aside0.mk (below_step (by repeat (first|(with_reducible first|exact HB.out|apply below_alloc|apply pw_below_drewN|apply below_drew1)|exact HB.out)) hb);have n3_:=Aside0.mk (hbox);have n4_:=Aside0.mk ((by rw [hg];exact (below_size (by repeat (first|(with_reducible first|exact HB.out|apply below_alloc|apply pw_below_drewN|apply below_drew1)|exact HB.out))):w.heap.size≤gb322));have n5_:=Aside0.mk ((by rw [hg];exact (below_size (by repeat (first|(with_reducible first|exact HB.out|apply below_alloc|apply pw_below_drewN|apply below_drew1)|exact HB.out))):w.heap.size≤gb322));clear HO317;clear HO320;clear HB;have HO317:=n0_;have HO320:=n1_;have HB:=n2_;have BK322:=n3_;have GW322:=n4_;have GE322:=n5_;clear n0_ n1_ n2_ n3_ n4_ n5_;clear hb hbox hg;obtain ⟨Ao7,co7,eo7⟩:=Kd.R_slice HO317.out;subst eo7;have hcz8_0:w6.cell? ⟨gb322,0,none⟩ = some (.slice none 0 0):=(blk_cell BK322.out 0).trans rfl;have hcz8_1:w6.cell? ⟨gb322,1,none⟩ = some (.slice none 0 0):=(blk_cell BK322.out 1).trans rfl;have hfz8_0:=blk_frozen BK322.out 0;have hfz8_1:=blk_frozen BK322.out 1;obtain ⟨Ao9,co9,eo9⟩:=Kd.R_slice HO320.out;subst eo9)|(go_at_call 23;(with_reducible refine (slices_Contains_bool_bool.calls k _ _ t318 true t323 _ ?side1 ?side2 A4.out).mono ?_);(case side1=>refine (Kd.R_reads' (e:=4) (base:=w.heap.size) (ok:=fun k_=>some k_ ≠ (.slice Ao7 t315.length co7:Value).ownBlock) (n:=t318.length) (c:=co9) ?_).2.2;exact (by (with_reducible repeat (first|apply Kd.R_alloc|apply Kd.R_drewN|apply Kd.R_drew));exact (Kd.R_mono (Kd.R_far (p:=⟨gb322,1,none⟩) (Kd.R_far (p:=⟨gb322,0,none⟩) (Kd.R_types HO320.out BK322.out (by decide)) (fun _ hk=>hk.2) (.slice Ao7 t315.length co7)) (fun _ hk=>hk.2) (.slice Ao9 t318.length co9)) (fun _ h_=>h_.1))));(case side2=>exact (Kd.R_reads' HO320.out).2.1);rintro e w' ⟨rfl,⟨nd,rfl⟩⟩))
  go_ret
  exact ⟨by first|rfl|(simp [errW_none,errW_some] <;> rfl)|(simp [*,errW_none,errW_some] <;> rfl)|(simp [errW_none,errW_some];exact ⟨rfl,rfl⟩),by repeat (first|(with_reducible first|exact HB.out|apply below_alloc|apply pw_below_drewN|apply below_drew1|refine below_set ?_ GE322.out)|exact HB.out)⟩
 ·replace c3:=Bool.eq_false_iff.mpr c3
  subst c3
  have H1:(some false) = some r:=by rw [if_neg (show ¬ (false = true) by decide)] at H;exact H
  clear H
  have H:=H1
  clear H1
  obtain rfl:=Option.some.inj H
  go_enter Try.func9,Try.ntmps9
  go_wp2_with (first|((with_reducible refine gate_callee (f:=20) rfl ?_);refine goesL_ (some 7) rfl rfl Try.func20 (by kernel_rfl) rfl #[.string a0] rfl (by (try simp only [List.map_toArray,List.map_cons,List.map_nil]);first|done|rfl|(simp only [List.length_drop,List.length_take];rfl)) ?_;(with_reducible refine (impl_setOf.calls k a0 t315 t318 false _ A2.out).mono ?_);rintro e w10 ⟨v316,v319,rfl,ho0,ho1,hb⟩;refine ⟨_,rfl,?_⟩;have n0_:=Aside0.mk (Kd.R_lower ho0 (below_size (by repeat (first|(with_reducible first|exact HB.out|apply below_alloc|apply pw_below_drewN|apply below_drew1)|exact HB.out))));have n1_:=Aside0.mk (Kd.R_lower ho1 (below_size (by repeat (first|(with_reducible first|exact HB.out|apply below_alloc|apply pw_below_drewN|apply below_drew1)|exact HB.out))));have n2_:=Aside0.mk (below_step (by repeat (first|(with_reducible first|exact HB.out|apply below_alloc|apply pw_below_drewN|apply below_drew1)|exact HB.out)) hb);clear HB;have HO317:=n0_;have HO320:=n1_;have HB:=n2_;clear n0_ n1_ n2_;(try clear hb);(try clear hb2);(try clear hk);(try clear hi);(try clear ho0);(try clear ho1))|((with_reducible refine gate_dst (N:=3) rfl ?_);refine box_event ?hg (N:=3) ?hd (cs:=#[.slice none 0 0,.slice none 0 0]) (t:=45) ?hr ?_;(case hd=>rfl);(case hg=>rfl);(case hr=>first|(go_simp;done)|(go_simp;rfl));intro gb322 hg w11 hbox hb;have n0_:=Aside0.mk (Kd.R_below (by (with_reducible repeat (first|apply Kd.R_alloc|apply Kd.R_drewN|apply Kd.R_drew));exact HO317.out) hb);have n1_:=Aside0.mk (Kd.R_below (by (with_reducible repeat (first|apply Kd.R_alloc|apply Kd.R_drewN|apply Kd.R_drew));exact HO320.out) hb);have n2_:=Aside0.mk (below_step (by repeat (first|(with_reducible first|exact HB.out|apply below_alloc|apply pw_below_drewN|apply below_drew1)|exact HB.out)) hb);have n3_:=Aside0.mk (hbox);have n4_:=Aside0.mk ((by rw [hg];exact (below_size (by repeat (first|(with_reducible first|exact HB.out|apply below_alloc|apply pw_below_drewN|apply below_drew1)|exact HB.out))):w.heap.size≤gb322));have n5_:=Aside0.mk ((by rw [hg];exact (below_size (by repeat (first|(with_reducible first|exact HB.out|apply below_alloc|apply pw_below_drewN|apply below_drew1)|exact HB.out))):w.heap.size≤gb322));clear HO317;clear HO320;clear HB;have HO317:=n0_;have HO320:=n1_;have HB:=n2_;have BK322:=n3_;have GW322:=n4_;have GE322:=n5_;clear n0_ n1_ n2_ n3_ n4_ n5_;clear hb hbox hg;obtain ⟨Ao12,co12,eo12⟩:=Kd.R_slice HO317.out;subst eo12;have hcz13_0:w11.cell? ⟨gb322,0,none⟩ = some (.slice none 0 0):=(blk_cell BK322.out 0).trans rfl;have hcz13_1:w11.cell? ⟨gb322,1,none⟩ = some (.slice none 0 0):=(blk_cell BK322.out 1).trans rfl;have hfz13_0:=blk_frozen BK322.out 0;have hfz13_1:=blk_frozen BK322.out 1;obtain ⟨Ao14,co14,eo14⟩:=Kd.R_slice HO320.out;subst eo14))
  go_ret
  exact ⟨by first|rfl|(simp [errW_none,errW_some] <;> rfl)|(simp [*,errW_none,errW_some] <;> rfl)|(simp [errW_none,errW_some];exact ⟨rfl,rfl⟩),by repeat (first|(with_reducible first|exact HB.out|apply below_alloc|apply pw_below_drewN|apply below_drew1|refine below_set ?_ GE322.out)|exact HB.out)⟩

end Go.Proofs.Ytmedlhoahddbmaa.P

namespace Go.Proofs.Ytmedlhoahddbmaa.P
open Go.RowKit Go.Proofs.YtmedlhoahddbmaaW.PrintWords Go.Proofs.YtmedlhoahddbmaaW.PrintLast Go.Proofs.YtmedlhoahddbmaaW.PrintMore
attribute [local go_sem] max2_int min2_int max_two min_two max_three min_three max_four min_four   -- for this text's walks alone
set_option linter.unusedVariables false
set_option linter.unusedSimpArgs false

/-! ### impl_SetList: function 7 -/
def impl_SetList.f (k:Nat) (a0:ByteArray) (a1:Int):Option (List Int × Bool):=(impl_setOf.f k a0).bind fun bt292=>(if bt292.2.2 = true then ((impl_in.f a1 0 1000).bind fun t300=>(if t300 = true then ((impl_set_below.f k bt292.1 bt292.2.1 a1).bind fun t301=>(some (t301,true))) else (some (([]:List Int),false)))) else (some (([]:List Int),false)))
theorem impl_SetList.mono:∀ a0 a1 k,LeO (impl_SetList.f k a0 a1) (impl_SetList.f (k + 1) a0 a1):=by
 intro a0 a1 k
 unfold impl_SetList.f
 repeat' first
   | (with_reducible exact impl_setOf.mono _ _)
   | (with_reducible exact impl_set_below.mono _ _ _ _)
   | (with_reducible exact LeO.refl _)
   | (with_reducible exact LeO.none _)
   | (with_reducible refine LeO.ite ?_ ?_)
   | (with_reducible refine LeO.bind ?_ (fun _=>?_))
   | exact impl_setOf.mono _ _
   | exact impl_set_below.mono _ _ _ _
   | exact LeO.none _
   | refine LeO.ite ?_ ?_
   | refine LeO.bind ?_ (fun _=>?_)
set_option maxHeartbeats 8000000 in
set_option maxRecDepth 100000 in
theorem impl_SetList.calls (k:Nat) (a0:ByteArray) (a1:Int) (r1:List Int) (r2:Bool) (w:World) (h:impl_SetList.f k a0 a1 = some (r1,r2)) :
  Calls Try.prog 7 #[.string a0,.int .i64 a1] w fun e w'=>∃ v0_:Value,e = .returned (.tuple #[v0_,.bool r2])∧Kd.R (Kd.int .i64) 3 w' w.heap.size (fun _=>True) v0_ r1∧Below w.heap.size w w':=by
 have hu45:=Try.underlying45
 have HB:=Aside0.mk (Below.refl w.heap.size w)
 have H:((impl_setOf.f k a0).bind fun bt292=>(if bt292.2.2 = true then ((impl_in.f a1 0 1000).bind fun t300=>(if t300 = true then ((impl_set_below.f k bt292.1 bt292.2.1 a1).bind fun t301=>(some (t301,true))) else (some (([]:List Int),false)))) else (some (([]:List Int),false)))) = some (r1,r2):=h
 clear h
 replace H:=Option.bind_eq_some_iff.mp H
 obtain ⟨⟨t292,t295,t298⟩,A30,H⟩:=H
 replace H:(if t298 = true then ((impl_in.f a1 0 1000).bind fun t300=>(if t300 = true then ((impl_set_below.f k t292 t295 a1).bind fun t301=>(some (t301,true))) else (some (([]:List Int),false)))) else (some (([]:List Int),false))) = some (r1,r2):=H
 have A3:=Aside0.mk A30
 clear A30
 by_cases c4:t298 = true
 ·subst c4
  have H1:((impl_in.f a1 0 1000).bind fun t300=>(if t300 = true then ((impl_set_below.f k t292 t295 a1).bind fun t301=>(some (t301,true))) else (some (([]:List Int),false)))) = some (r1,r2):=by rw [if_pos rfl] at H;exact H
  clear H
  have H:=H1
  clear H1
  replace H:=Option.bind_eq_some_iff.mp H
  obtain ⟨t300,A50,H⟩:=H
  replace H:(if t300 = true then ((impl_set_below.f k t292 t295 a1).bind fun t301=>(some (t301,true))) else (some (([]:List Int),false))) = some (r1,r2):=H
  have A5:=Aside0.mk A50
  clear A50
  by_cases c6:t300 = true
  ·subst c6
   have H1:((impl_set_below.f k t292 t295 a1).bind fun t301=>(some (t301,true))) = some (r1,r2):=by rw [if_pos rfl] at H;exact H
   clear H
   have H:=H1
   clear H1
   replace H:=Option.bind_eq_some_iff.mp H
   obtain ⟨t301,A70,H⟩:=H
   replace H:(some (t301,true)) = some (r1,r2):=H
   have A7:=Aside0.mk A70
   clear A70
   simp only [Option.some.injEq,Prod.mk.injEq] at H
   obtain ⟨rfl,rfl⟩:=H
   go_enter Try.func7,Try.ntmps7
   go_wp2_with (first|((with_reducible refine gate_callee (f:=20) rfl ?_);refine goesL_ (some 10) rfl rfl Try.func20 (by kernel_rfl) rfl #[.string a0] rfl (by (try simp only [List.map_toArray,List.map_cons,List.map_nil]);first|done|rfl|(simp only [List.length_drop,List.length_take];rfl)) ?_;(with_reducible refine (impl_setOf.calls k a0 t292 t295 true _ A3.out).mono ?_);rintro e w8 ⟨v293,v296,rfl,ho0,ho1,hb⟩;refine ⟨_,rfl,?_⟩;have n0_:=Aside0.mk (Kd.R_lower ho0 (below_size (by repeat (first|(with_reducible first|exact HB.out|apply below_alloc|apply pw_below_drewN|apply below_drew1)|exact HB.out))));have n1_:=Aside0.mk (Kd.R_lower ho1 (below_size (by repeat (first|(with_reducible first|exact HB.out|apply below_alloc|apply pw_below_drewN|apply below_drew1)|exact HB.out))));have n2_:=Aside0.mk (below_step (by repeat (first|(with_reducible first|exact HB.out|apply below_alloc|apply pw_below_drewN|apply below_drew1)|exact HB.out)) hb);clear HB;have HO294:=n0_;have HO297:=n1_;have HB:=n2_;clear n0_ n1_ n2_;(try clear hb);(try clear hb2);(try clear hk);(try clear hi);(try clear ho0);(try clear ho1))|((with_reducible refine gate_dst (N:=6) rfl ?_);refine box_event ?hg (N:=6) ?hd (cs:=#[.slice none 0 0,.slice none 0 0]) (t:=45) ?hr ?_;(case hd=>rfl);(case hg=>rfl);(case hr=>first|(go_simp;done)|(go_simp;rfl));intro gb299 hg w9 hbox hb;have n0_:=Aside0.mk (Kd.R_below (by (with_reducible repeat (first|apply Kd.R_alloc|apply Kd.R_drewN|apply Kd.R_drew));exact HO294.out) hb);have n1_:=Aside0.mk (Kd.R_below (by (with_reducible repeat (first|apply Kd.R_alloc|apply Kd.R_drewN|apply Kd.R_drew));exact HO297.out) hb);have n2_:=Aside0.mk (below_step (by repeat (first|(with_reducible first|exact HB.out|apply below_alloc|apply pw_below_drewN|apply below_drew1)|exact HB.out)) hb);have n3_:=Aside0.mk (hbox);have n4_:=Aside0.mk ((by rw [hg];exact (below_size (by repeat (first|(with_reducible first|exact HB.out|apply below_alloc|apply pw_below_drewN|apply below_drew1)|exact HB.out))):w.heap.size≤gb299));have n5_:=Aside0.mk ((by rw [hg];exact (below_size (by repeat (first|(with_reducible first|exact HB.out|apply below_alloc|apply pw_below_drewN|apply below_drew1)|exact HB.out))):w.heap.size≤gb299));clear HO294;clear HO297;clear HB;have HO294:=n0_;have HO297:=n1_;have HB:=n2_;have BK299:=n3_;have GW299:=n4_;have GE299:=n5_;clear n0_ n1_ n2_ n3_ n4_ n5_;clear hb hbox hg;obtain ⟨Ao10,co10,eo10⟩:=Kd.R_slice HO294.out;subst eo10;have hcz11_0:w9.cell? ⟨gb299,0,none⟩ = some (.slice none 0 0):=(blk_cell BK299.out 0).trans rfl;have hcz11_1:w9.cell? ⟨gb299,1,none⟩ = some (.slice none 0 0):=(blk_cell BK299.out 1).trans rfl;have hfz11_0:=blk_frozen BK299.out 0;have hfz11_1:=blk_frozen BK299.out 1;obtain ⟨Ao12,co12,eo12⟩:=Kd.R_slice HO297.out;subst eo12)|(go_at_call 14;(with_reducible refine (impl_in.calls a1 0 1000 true _ A5.out).mono ?_);rintro e w' ⟨rfl,⟨nd,rfl⟩⟩)|((with_reducible refine gate_callee (f:=21) rfl ?_);refine goesL_ (some 22) rfl rfl Try.func21 (by kernel_rfl) rfl #[.agg #[.slice Ao10 t292.length co10,.slice Ao12 t295.length co12],.int .i64 a1] rfl (by (try simp only [List.map_toArray,List.map_cons,List.map_nil]);first|done|rfl|(simp only [List.length_drop,List.length_take];rfl)) ?_;(with_reducible refine (impl_set_below.calls k _ _ t292 _ _ t295 a1 t301 _ ?side1 ?side2 ?side3 ?side4 A7.out).mono ?_);(case side1=>refine (Kd.R_reads' (e:=4) (base:=w.heap.size) (ok:=fun k_=>some k_ ≠ (.slice Ao12 t295.length co12:Value).ownBlock) (n:=t292.length) (c:=co10) ?_).2.2;exact (by (with_reducible repeat (first|apply Kd.R_alloc|apply Kd.R_drewN|apply Kd.R_drew));exact (Kd.R_mono (Kd.R_far (p:=⟨gb299,1,none⟩) (Kd.R_far (p:=⟨gb299,0,none⟩) (Kd.R_types HO294.out BK299.out (by decide)) (fun _ hk=>hk.2) (.slice Ao10 t292.length co10)) (fun _ hk=>hk.2) (.slice Ao12 t295.length co12)) (fun _ h_=>h_.1))));(case side2=>exact (Kd.R_reads' HO294.out).2.1);(case side3=>refine (Kd.R_reads' (e:=4) (base:=w.heap.size) (ok:=fun k_=>some k_ ≠ (.slice Ao10 t292.length co10:Value).ownBlock) (n:=t295.length) (c:=co12) ?_).2.2;exact (by (with_reducible repeat (first|apply Kd.R_alloc|apply Kd.R_drewN|apply Kd.R_drew));exact (Kd.R_mono (Kd.R_far (p:=⟨gb299,1,none⟩) (Kd.R_far (p:=⟨gb299,0,none⟩) (Kd.R_types HO297.out BK299.out (by decide)) (fun _ hk=>hk.2) (.slice Ao10 t292.length co10)) (fun _ hk=>hk.2) (.slice Ao12 t295.length co12)) (fun _ h_=>h_.1))));(case side4=>exact (Kd.R_reads' HO297.out).2.1);rintro e w13 ⟨v302,rfl,ho0,hb⟩;refine ⟨_,rfl,?_⟩;have n0_:=Aside0.mk (Kd.R_below (by (with_reducible repeat (first|apply Kd.R_alloc|apply Kd.R_drewN|apply Kd.R_drew));exact (Kd.R_mono (Kd.R_far (p:=⟨gb299,1,none⟩) (Kd.R_far (p:=⟨gb299,0,none⟩) (Kd.R_types HO294.out BK299.out (by decide)) (fun _ hk=>hk.2) (.slice Ao10 t292.length co10)) (fun _ hk=>hk.2) (.slice Ao12 t295.length co12)) (fun _ h_=>h_.1))) hb);have n1_:=Aside0.mk (Kd.R_below (by (with_reducible repeat (first|apply Kd.R_alloc|apply Kd.R_drewN|apply Kd.R_drew));exact (Kd.R_mono (Kd.R_far (p:=⟨gb299,1,none⟩) (Kd.R_far (p:=⟨gb299,0,none⟩) (Kd.R_types HO297.out BK299.out (by decide)) (fun _ hk=>hk.2) (.slice Ao10 t292.length co10)) (fun _ hk=>hk.2) (.slice Ao12 t295.length co12)) (fun _ h_=>h_.1))) hb);have n2_:=Aside0.mk (Kd.R_lower ho0 (below_size (by repeat (first|(with_reducible first|exact HB.out|apply below_alloc|apply pw_below_drewN|apply below_drew1|refine below_set ?_ GE299.out)|exact HB.out))));have n3_:=Aside0.mk (blk_below (g:=gb299) (o:=.cells #[.slice Ao10 t292.length co10,.slice Ao12 t295.length co12] 45 (0,0)) (by (with_reducible repeat (first|refine blk_drewN ?_ _|refine blk_drew ?_|refine blk_alloc ?_ _));refine blk_put (cs:=#[.slice Ao10 t292.length co10,.slice none 0 0]) ?_ 1 _ rfl;(with_reducible repeat (first|refine blk_drewN ?_ _|refine blk_drew ?_|refine blk_alloc ?_ _));refine blk_put (cs:=#[.slice none 0 0,.slice none 0 0]) ?_ 0 _ rfl;(with_reducible repeat (first|refine blk_drewN ?_ _|refine blk_drew ?_|refine blk_alloc ?_ _));exact BK299.out) hb);have n4_:=Aside0.mk (below_step (by repeat (first|(with_reducible first|exact HB.out|apply below_alloc|apply pw_below_drewN|apply below_drew1|refine below_set ?_ GE299.out)|exact HB.out)) hb);clear HO294;clear HO297;clear BK299;clear HB;have HO294:=n0_;have HO297:=n1_;have HO303:=n2_;have BK299:=n3_;have HB:=n4_;clear n0_ n1_ n2_ n3_ n4_;(try clear hb);(try clear hb2);(try clear hk);(try clear hi);(try clear ho0)))
   go_ret2
   exact ⟨_,by first|rfl|(simp [errW_none,errW_some] <;> rfl)|(simp [*,errW_none,errW_some] <;> rfl)|(simp [errW_none,errW_some];exact ⟨rfl,rfl⟩),by (with_reducible repeat (first|apply Kd.R_alloc|apply Kd.R_drewN|apply Kd.R_drew));exact HO303.out,by repeat (first|(with_reducible first|exact HB.out|apply below_alloc|apply pw_below_drewN|apply below_drew1|refine below_set ?_ GE299.out)|exact HB.out)⟩
  ·replace c6:=Bool.eq_false_iff.mpr c6
   subst c6
   have H1:(some (([]:List Int),false)) = some (r1,r2):=by rw [if_neg (show ¬ (false = true) by decide)] at H;exact H
   clear H
   have H:=H1
   clear H1
   simp only [Option.some.injEq,Prod.mk.injEq] at H
   obtain ⟨rfl,rfl⟩:=H
   go_enter Try.func7,Try.ntmps7
   go_wp2_with (first|((with_reducible refine gate_callee (f:=20) rfl ?_);refine goesL_ (some 10) rfl rfl Try.func20 (by kernel_rfl) rfl #[.string a0] rfl (by (try simp only [List.map_toArray,List.map_cons,List.map_nil]);first|done|rfl|(simp only [List.length_drop,List.length_take];rfl)) ?_;(with_reducible refine (impl_setOf.calls k a0 t292 t295 true _ A3.out).mono ?_);rintro e w14 ⟨v293,v296,rfl,ho0,ho1,hb⟩;refine ⟨_,rfl,?_⟩;have n0_:=Aside0.mk (Kd.R_lower ho0 (below_size (by repeat (first|(with_reducible first|exact HB.out|apply below_alloc|apply pw_below_drewN|apply below_drew1)|exact HB.out))));have n1_:=Aside0.mk (Kd.R_lower ho1 (below_size (by repeat (first|(with_reducible first|exact HB.out|apply below_alloc|apply pw_below_drewN|apply below_drew1)|exact HB.out))));have n2_:=Aside0.mk (below_step (by repeat (first|(with_reducible first|exact HB.out|apply below_alloc|apply pw_below_drewN|apply below_drew1)|exact HB.out)) hb);clear HB;have HO294:=n0_;have HO297:=n1_;have HB:=n2_;clear n0_ n1_ n2_;(try clear hb);(try clear hb2);(try clear hk);(try clear hi);(try clear ho0);(try clear ho1))|((with_reducible refine gate_dst (N:=6) rfl ?_);refine box_event ?hg (N:=6) ?hd (cs:=#[.slice none 0 0,.slice none 0 0]) (t:=45) ?hr ?_;(case hd=>rfl);(case hg=>rfl);(case hr=>first|(go_simp;done)|(go_simp;rfl));intro gb299 hg w15 hbox hb;have n0_:=Aside0.mk (Kd.R_below (by (with_reducible repeat (first|apply Kd.R_alloc|apply Kd.R_drewN|apply Kd.R_drew));exact HO294.out) hb);have n1_:=Aside0.mk (Kd.R_below (by (with_reducible repeat (first|apply Kd.R_alloc|apply Kd.R_drewN|apply Kd.R_drew));exact HO297.out) hb);have n2_:=Aside0.mk (below_step (by repeat (first|(with_reducible first|exact HB.out|apply below_alloc|apply pw_below_drewN|apply below_drew1)|exact HB.out)) hb);have n3_:=Aside0.mk (hbox);have n4_:=Aside0.mk ((by rw [hg];exact (below_size (by repeat (first|(with_reducible first|exact HB.out|apply below_alloc|apply pw_below_drewN|apply below_drew1)|exact HB.out))):w.heap.size≤gb299));have n5_:=Aside0.mk ((by rw [hg];exact (below_size (by repeat (first|(with_reducible first|exact HB.out|apply below_alloc|apply pw_below_drewN|apply below_drew1)|exact HB.out))):w.heap.size≤gb299));clear HO294;clear HO297;clear HB;have HO294:=n0_;have HO297:=n1_;have HB:=n2_;have BK299:=n3_;have GW299:=n4_;have GE299:=n5_;clear n0_ n1_ n2_ n3_ n4_ n5_;clear hb hbox hg;obtain ⟨Ao16,co16,eo16⟩:=Kd.R_slice HO294.out;subst eo16;have hcz17_0:w15.cell? ⟨gb299,0,none⟩ = some (.slice none 0 0):=(blk_cell BK299.out 0).trans rfl;have hcz17_1:w15.cell? ⟨gb299,1,none⟩ = some (.slice none 0 0):=(blk_cell BK299.out 1).trans rfl;have hfz17_0:=blk_frozen BK299.out 0;have hfz17_1:=blk_frozen BK299.out 1;obtain ⟨Ao18,co18,eo18⟩:=Kd.R_slice HO297.out;subst eo18)|(go_at_call 14;(with_reducible refine (impl_in.calls a1 0 1000 false _ A5.out).mono ?_);rintro e w' ⟨rfl,⟨nd,rfl⟩⟩))
   go_ret2
   exact ⟨_,by first|rfl|(simp [errW_none,errW_some] <;> rfl)|(simp [*,errW_none,errW_some] <;> rfl)|(simp [errW_none,errW_some];exact ⟨rfl,rfl⟩),by first|exact Kd.R_nil _ _ _ _ _|exact Kd.N_nil _ _ _ _ _|exact Kd.V_nil _ _ _ _ _|exact Kd.Q_nil _ _ _ _ _|exact Kd.S_nil _ _ _ _ _,by repeat (first|(with_reducible first|exact HB.out|apply below_alloc|apply pw_below_drewN|apply below_drew1|refine below_set ?_ GE299.out)|exact HB.out)⟩
 ·replace c4:=Bool.eq_false_iff.mpr c4
  subst c4
  have H1:(some (([]:List Int),false)) = some (r1,r2):=by rw [if_neg (show ¬ (false = true) by decide)] at H;exact H
  clear H
  have H:=H1
  clear H1
  simp only [Option.some.injEq,Prod.mk.injEq] at H
  obtain ⟨rfl,rfl⟩:=H
  go_enter Try.func7,Try.ntmps7
  go_wp2_with (first|((with_reducible refine gate_callee (f:=20) rfl ?_);refine goesL_ (some 10) rfl rfl Try.func20 (by kernel_rfl) rfl #[.string a0] rfl (by (try simp only [List.map_toArray,List.map_cons,List.map_nil]);first|done|rfl|(simp only [List.length_drop,List.length_take];rfl)) ?_;(with_reducible refine (impl_setOf.calls k a0 t292 t295 false _ A3.out).mono ?_);rintro e w19 ⟨v293,v296,rfl,ho0,ho1,hb⟩;refine ⟨_,rfl,?_⟩;have n0_:=Aside0.mk (Kd.R_lower ho0 (below_size (by repeat (first|(with_reducible first|exact HB.out|apply below_alloc|apply pw_below_drewN|apply below_drew1)|exact HB.out))));have n1_:=Aside0.mk (Kd.R_lower ho1 (below_size (by repeat (first|(with_reducible first|exact HB.out|apply below_alloc|apply pw_below_drewN|apply below_drew1)|exact HB.out))));have n2_:=Aside0.mk (below_step (by repeat (first|(with_reducible first|exact HB.out|apply below_alloc|apply pw_below_drewN|apply below_drew1)|exact HB.out)) hb);clear HB;have HO294:=n0_;have HO297:=n1_;have HB:=n2_;clear n0_ n1_ n2_;(try clear hb);(try clear hb2);(try clear hk);(try clear hi);(try clear ho0);(try clear ho1))|((with_reducible refine gate_dst (N:=6) rfl ?_);refine box_event ?hg (N:=6) ?hd (cs:=#[.slice none 0 0,.slice none 0 0]) (t:=45) ?hr ?_;(case hd=>rfl);(case hg=>rfl);(case hr=>first|(go_simp;done)|(go_simp;rfl));intro gb299 hg w20 hbox hb;have n0_:=Aside0.mk (Kd.R_below (by (with_reducible repeat (first|apply Kd.R_alloc|apply Kd.R_drewN|apply Kd.R_drew));exact HO294.out) hb);have n1_:=Aside0.mk (Kd.R_below (by (with_reducible repeat (first|apply Kd.R_alloc|apply Kd.R_drewN|apply Kd.R_drew));exact HO297.out) hb);have n2_:=Aside0.mk (below_step (by repeat (first|(with_reducible first|exact HB.out|apply below_alloc|apply pw_below_drewN|apply below_drew1)|exact HB.out)) hb);have n3_:=Aside0.mk (hbox);have n4_:=Aside0.mk ((by rw [hg];exact (below_size (by repeat (first|(with_reducible first|exact HB.out|apply below_alloc|apply pw_below_drewN|apply below_drew1)|exact HB.out))):w.heap.size≤gb299));have n5_:=Aside0.mk ((by rw [hg];exact (below_size (by repeat (first|(with_reducible first|exact HB.out|apply below_alloc|apply pw_below_drewN|apply below_drew1)|exact HB.out))):w.heap.size≤gb299));clear HO294;clear HO297;clear HB;have HO294:=n0_;have HO297:=n1_;have HB:=n2_;have BK299:=n3_;have GW299:=n4_;have GE299:=n5_;clear n0_ n1_ n2_ n3_ n4_ n5_;clear hb hbox hg;obtain ⟨Ao21,co21,eo21⟩:=Kd.R_slice HO294.out;subst eo21;have hcz22_0:w20.cell? ⟨gb299,0,none⟩ = some (.slice none 0 0):=(blk_cell BK299.out 0).trans rfl;have hcz22_1:w20.cell? ⟨gb299,1,none⟩ = some (.slice none 0 0):=(blk_cell BK299.out 1).trans rfl;have hfz22_0:=blk_frozen BK299.out 0;have hfz22_1:=blk_frozen BK299.out 1;obtain ⟨Ao23,co23,eo23⟩:=Kd.R_slice HO297.out;subst eo23))
  go_ret2
  exact ⟨_,by first|rfl|(simp [errW_none,errW_some] <;> rfl)|(simp [*,errW_none,errW_some] <;> rfl)|(simp [errW_none,errW_some];exact ⟨rfl,rfl⟩),by first|exact Kd.R_nil _ _ _ _ _|exact Kd.N_nil _ _ _ _ _|exact Kd.V_nil _ _ _ _ _|exact Kd.Q_nil _ _ _ _ _|exact Kd.S_nil _ _ _ _ _,by repeat (first|(with_reducible first|exact HB.out|apply below_alloc|apply pw_below_drewN|apply below_drew1|refine below_set ?_ GE299.out)|exact HB.out)⟩

end Go.Proofs.Ytmedlhoahddbmaa.P

namespace Go.Proofs.Ytmedlhoahddbmaa.P
open Go.RowKit Go.Proofs.YtmedlhoahddbmaaW.PrintWords Go.Proofs.YtmedlhoahddbmaaW.PrintLast Go.Proofs.YtmedlhoahddbmaaW.PrintMore
attribute [local go_sem] max2_int min2_int max_two min_two max_three min_three max_four min_four   -- for this text's walks alone
set_option linter.unusedVariables false
set_option linter.unusedSimpArgs false

/-! ### impl_SetHas: function 8 -/
def impl_SetHas.f (k:Nat) (a0:ByteArray) (a1:Int):Option (Bool):=(impl_setOf.f k a0).bind fun bt304=>(if bt304.2.2 = true then ((impl_set_has.f bt304.1 bt304.2.1 a1).bind fun t312=>(some t312)) else (some false))
theorem impl_SetHas.mono:∀ a0 a1 k,LeO (impl_SetHas.f k a0 a1) (impl_SetHas.f (k + 1) a0 a1):=by
 intro a0 a1 k
 unfold impl_SetHas.f
 repeat' first
   | (with_reducible exact impl_setOf.mono _ _)
   | (with_reducible exact LeO.refl _)
   | (with_reducible exact LeO.none _)
   | (with_reducible refine LeO.ite ?_ ?_)
   | (with_reducible refine LeO.bind ?_ (fun _=>?_))
   | exact impl_setOf.mono _ _
   | exact LeO.none _
   | refine LeO.ite ?_ ?_
   | refine LeO.bind ?_ (fun _=>?_)
set_option maxHeartbeats 8000000 in
set_option maxRecDepth 100000 in
theorem impl_SetHas.calls (k:Nat) (a0:ByteArray) (a1:Int) (r:Bool) (w:World) (h:impl_SetHas.f k a0 a1 = some r) :
  Calls Try.prog 8 #[.string a0,.int .i64 a1] w fun e w'=>e = .returned (.bool r)∧Below w.heap.size w w':=by
 have hu45:=Try.underlying45
 have HB:=Aside0.mk (Below.refl w.heap.size w)
 have H:((impl_setOf.f k a0).bind fun bt304=>(if bt304.2.2 = true then ((impl_set_has.f bt304.1 bt304.2.1 a1).bind fun t312=>(some t312)) else (some false))) = some r:=h
 clear h
 replace H:=Option.bind_eq_some_iff.mp H
 obtain ⟨⟨t304,t307,t310⟩,A30,H⟩:=H
 replace H:(if t310 = true then ((impl_set_has.f t304 t307 a1).bind fun t312=>(some t312)) else (some false)) = some r:=H
 have A3:=Aside0.mk A30
 clear A30
 by_cases c4:t310 = true
 ·subst c4
  have H1:((impl_set_has.f t304 t307 a1).bind fun t312=>(some t312)) = some r:=by rw [if_pos rfl] at H;exact H
  clear H
  have H:=H1
  clear H1
  replace H:=Option.bind_eq_some_iff.mp H
  obtain ⟨t312,A50,H⟩:=H
  replace H:(some t312) = some r:=H
  have A5:=Aside0.mk A50
  clear A50
  obtain rfl:=Option.some.inj H
  go_enter Try.func8,Try.ntmps8
  go_wp2_with (first|((with_reducible refine gate_callee (f:=20) rfl ?_);refine goesL_ (some 9) rfl rfl Try.func20 (by kernel_rfl) rfl #[.string a0] rfl (by (try simp only [List.map_toArray,List.map_cons,List.map_nil]);first|done|rfl|(simp only [List.length_drop,List.length_take];rfl)) ?_;(with_reducible refine (impl_setOf.calls k a0 t304 t307 true _ A3.out).mono ?_);rintro e w6 ⟨v305,v308,rfl,ho0,ho1,hb⟩;refine ⟨_,rfl,?_⟩;have n0_:=Aside0.mk (Kd.R_lower ho0 (below_size (by repeat (first|(with_reducible first|exact HB.out|apply below_alloc|apply pw_below_drewN|apply below_drew1)|exact HB.out))));have n1_:=Aside0.mk (Kd.R_lower ho1 (below_size (by repeat (first|(with_reducible first|exact HB.out|apply below_alloc|apply pw_below_drewN|apply below_drew1)|exact HB.out))));have n2_:=Aside0.mk (below_step (by repeat (first|(with_reducible first|exact HB.out|apply below_alloc|apply pw_below_drewN|apply below_drew1)|exact HB.out)) hb);clear HB;have HO306:=n0_;have HO309:=n1_;have HB:=n2_;clear n0_ n1_ n2_;(try clear hb);(try clear hb2);(try clear hk);(try clear hi);(try clear ho0);(try clear ho1))|((with_reducible refine gate_dst (N:=5) rfl ?_);refine box_event ?hg (N:=5) ?hd (cs:=#[.slice none 0 0,.slice none 0 0]) (t:=45) ?hr ?_;(case hd=>rfl);(case hg=>rfl);(case hr=>first|(go_simp;done)|(go_simp;rfl));intro gb311 hg w7 hbox hb;have n0_:=Aside0.mk (Kd.R_below (by (with_reducible repeat (first|apply Kd.R_alloc|apply Kd.R_drewN|apply Kd.R_drew));exact HO306.out) hb);have n1_:=Aside0.mk (Kd.R_below (by (with_reducible repeat (first|apply Kd.R_alloc|apply Kd.R_drewN|apply Kd.R_drew));exact HO309.out) hb);have n2_:=Aside0.mk (below_step (by repeat (first|(with_reducible first|exact HB.out|apply below_alloc|apply pw_below_drewN|apply below_drew1)|exact HB.out)) hb);have n3_:=Aside0.mk (hbox);have n4_:=Aside0.mk ((by rw [hg];exact (below_size (by repeat (first|(with_reducible first|exact HB.out|apply below_alloc|apply pw_below_drewN|apply below_drew1)|exact HB.out))):w.heap.size≤gb311));have n5_:=Aside0.mk ((by rw [hg];exact (below_size (by repeat (first|(with_reducible first|exact HB.out|apply below_alloc|apply pw_below_drewN|apply below_drew1)|exact HB.out))):w.heap.size≤gb311));clear HO306;clear HO309;clear HB;have HO306:=n0_;have HO309:=n1_;have HB:=n2_;have BK311:=n3_;have GW311:=n4_;have GE311:=n5_;clear n0_ n1_ n2_ n3_ n4_ n5_;clear hb hbox hg;obtain ⟨Ao8,co8,eo8⟩:=Kd.R_slice HO306.out;subst eo8;have hcz9_0:w7.cell? ⟨gb311,0,none⟩ = some (.slice none 0 0):=(blk_cell BK311.out 0).trans rfl;have hcz9_1:w7.cell? ⟨gb311,1,none⟩ = some (.slice none 0 0):=(blk_cell BK311.out 1).trans rfl;have hfz9_0:=blk_frozen BK311.out 0;have hfz9_1:=blk_frozen BK311.out 1;obtain ⟨Ao10,co10,eo10⟩:=Kd.R_slice HO309.out;subst eo10)|(go_at_call 22;(with_reducible refine (impl_set_has.calls _ _ t304 _ _ t307 a1 t312 _ ?side1 ?side2 ?side3 ?side4 A5.out).mono ?_);(case side1=>refine (Kd.R_reads' (e:=4) (base:=w.heap.size) (ok:=fun k_=>some k_ ≠ (.slice Ao10 t307.length co10:Value).ownBlock) (n:=t304.length) (c:=co8) ?_).2.2;exact (by (with_reducible repeat (first|apply Kd.R_alloc|apply Kd.R_drewN|apply Kd.R_drew));exact (Kd.R_mono (Kd.R_far (p:=⟨gb311,1,none⟩) (Kd.R_far (p:=⟨gb311,0,none⟩) (Kd.R_types HO306.out BK311.out (by decide)) (fun _ hk=>hk.2) (.slice Ao8 t304.length co8)) (fun _ hk=>hk.2) (.slice Ao10 t307.length co10)) (fun _ h_=>h_.1))));(case side2=>exact (Kd.R_reads' HO306.out).2.1);(case side3=>refine (Kd.R_reads' (e:=4) (base:=w.heap.size) (ok:=fun k_=>some k_ ≠ (.slice Ao8 t304.length co8:Value).ownBlock) (n:=t307.length) (c:=co10) ?_).2.2;exact (by (with_reducible repeat (first|apply Kd.R_alloc|apply Kd.R_drewN|apply Kd.R_drew));exact (Kd.R_mono (Kd.R_far (p:=⟨gb311,1,none⟩) (Kd.R_far (p:=⟨gb311,0,none⟩) (Kd.R_types HO309.out BK311.out (by decide)) (fun _ hk=>hk.2) (.slice Ao8 t304.length co8)) (fun _ hk=>hk.2) (.slice Ao10 t307.length co10)) (fun _ h_=>h_.1))));(case side4=>exact (Kd.R_reads' HO309.out).2.1);rintro e w11 ⟨rfl,hb⟩;have n0_:=Aside0.mk (Kd.R_below (by (with_reducible repeat (first|apply Kd.R_alloc|apply Kd.R_drewN|apply Kd.R_drew));exact (Kd.R_mono (Kd.R_far (p:=⟨gb311,1,none⟩) (Kd.R_far (p:=⟨gb311,0,none⟩) (Kd.R_types HO306.out BK311.out (by decide)) (fun _ hk=>hk.2) (.slice Ao8 t304.length co8)) (fun _ hk=>hk.2) (.slice Ao10 t307.length co10)) (fun _ h_=>h_.1))) hb);have n1_:=Aside0.mk (Kd.R_below (by (with_reducible repeat (first|apply Kd.R_alloc|apply Kd.R_drewN|apply Kd.R_drew));exact (Kd.R_mono (Kd.R_far (p:=⟨gb311,1,none⟩) (Kd.R_far (p:=⟨gb311,0,none⟩) (Kd.R_types HO309.out BK311.out (by decide)) (fun _ hk=>hk.2) (.slice Ao8 t304.length co8)) (fun _ hk=>hk.2) (.slice Ao10 t307.length co10)) (fun _ h_=>h_.1))) hb);have n2_:=Aside0.mk (blk_below (g:=gb311) (o:=.cells #[.slice Ao8 t304.length co8,.slice Ao10 t307.length co10] 45 (0,0)) (by (with_reducible repeat (first|refine blk_drewN ?_ _|refine blk_drew ?_|refine blk_alloc ?_ _));refine blk_put (cs:=#[.slice Ao8 t304.length co8,.slice none 0 0]) ?_ 1 _ rfl;(with_reducible repeat (first|refine blk_drewN ?_ _|refine blk_drew ?_|refine blk_alloc ?_ _));refine blk_put (cs:=#[.slice none 0 0,.slice none 0 0]) ?_ 0 _ rfl;(with_reducible repeat (first|refine blk_drewN ?_ _|refine blk_drew ?_|refine blk_alloc ?_ _));exact BK311.out) hb);have n3_:=Aside0.mk (below_step (by repeat (first|(with_reducible first|exact HB.out|apply below_alloc|apply pw_below_drewN|apply below_drew1|refine below_set ?_ GE311.out)|exact HB.out)) hb);clear HO306;clear HO309;clear BK311;clear HB;have HO306:=n0_;have HO309:=n1_;have BK311:=n2_;have HB:=n3_;clear n0_ n1_ n2_ n3_;(try clear hb);(try clear hb2);(try clear hk);(try clear hi)))
  go_ret
  exact ⟨by first|rfl|(simp [errW_none,errW_some] <;> rfl)|(simp [*,errW_none,errW_some] <;> rfl)|(simp [errW_none,errW_some];exact ⟨rfl,rfl⟩),by repeat (first|(with_reducible first|exact HB.out|apply below_alloc|apply pw_below_drewN|apply below_drew1|refine below_set ?_ GE311.out)|exact HB.out)⟩
 ·replace c4:=Bool.eq_false_iff.mpr c4
  subst c4
  have H1:(some false) = some r:=by rw [if_neg (show ¬ (false = true) by decide)] at H;exact H
  clear H
  have H:=H1
  clear H1
  obtain rfl:=Option.some.inj H
  go_enter Try.func8,Try.ntmps8
  go_wp2_with (first|((with_reducible refine gate_callee (f:=20) rfl ?_);refine goesL_ (some 9) rfl rfl Try.func20 (by kernel_rfl) rfl #[.string a0] rfl (by (try simp only [List.map_toArray,List.map_cons,List.map_nil]);first|done|rfl|(simp only [List.length_drop,List.length_take];rfl)) ?_;(with_reducible refine (impl_setOf.calls k a0 t304 t307 false _ A3.out).mono ?_);rintro e w12 ⟨v305,v308,rfl,ho0,ho1,hb⟩;refine ⟨_,rfl,?_⟩;have n0_:=Aside0.mk (Kd.R_lower ho0 (below_size (by repeat (first|(with_reducible first|exact HB.out|apply below_alloc|apply pw_below_drewN|apply below_drew1)|exact HB.out))));have n1_:=Aside0.mk (Kd.R_lower ho1 (below_size (by repeat (first|(with_reducible first|exact HB.out|apply below_alloc|apply pw_below_drewN|apply below_drew1)|exact HB.out))));have n2_:=Aside0.mk (below_step (by repeat (first|(with_reducible first|exact HB.out|apply below_alloc|apply pw_below_drewN|apply below_drew1)|exact HB.out)) hb);clear HB;have HO306:=n0_;have HO309:=n1_;have HB:=n2_;clear n0_ n1_ n2_;(try clear hb);(try clear hb2);(try clear hk);(try clear hi);(try clear ho0);(try clear ho1))|((with_reducible refine gate_dst (N:=5) rfl ?_);refine box_event ?hg (N:=5) ?hd (cs:=#[.slice none 0 0,.slice none 0 0]) (t:=45) ?hr ?_;(case hd=>rfl);(case hg=>rfl);(case hr=>first|(go_simp;done)|(go_simp;rfl));intro gb311 hg w13 hbox hb;have n0_:=Aside0.mk (Kd.R_below (by (with_reducible repeat (first|apply Kd.R_alloc|apply Kd.R_drewN|apply Kd.R_drew));exact HO306.out) hb);have n1_:=Aside0.mk (Kd.R_below (by (with_reducible repeat (first|apply Kd.R_alloc|apply Kd.R_drewN|apply Kd.R_drew));exact HO309.out) hb);have n2_:=Aside0.mk (below_step (by repeat (first|(with_reducible first|exact HB.out|apply below_alloc|apply pw_below_drewN|apply below_drew1)|exact HB.out)) hb);have n3_:=Aside0.mk (hbox);have n4_:=Aside0.mk ((by rw [hg];exact (below_size (by repeat (first|(with_reducible first|exact HB.out|apply below_alloc|apply pw_below_drewN|apply below_drew1)|exact HB.out))):w.heap.size≤gb311));have n5_:=Aside0.mk ((by rw [hg];exact (below_size (by repeat (first|(with_reducible first|exact HB.out|apply below_alloc|apply pw_below_drewN|apply below_drew1)|exact HB.out))):w.heap.size≤gb311));clear HO306;clear HO309;clear HB;have HO306:=n0_;have HO309:=n1_;have HB:=n2_;have BK311:=n3_;have GW311:=n4_;have GE311:=n5_;clear n0_ n1_ n2_ n3_ n4_ n5_;clear hb hbox hg;obtain ⟨Ao14,co14,eo14⟩:=Kd.R_slice HO306.out;subst eo14;have hcz15_0:w13.cell? ⟨gb311,0,none⟩ = some (.slice none 0 0):=(blk_cell BK311.out 0).trans rfl;have hcz15_1:w13.cell? ⟨gb311,1,none⟩ = some (.slice none 0 0):=(blk_cell BK311.out 1).trans rfl;have hfz15_0:=blk_frozen BK311.out 0;have hfz15_1:=blk_frozen BK311.out 1;obtain ⟨Ao16,co16,eo16⟩:=Kd.R_slice HO309.out;subst eo16))
  go_ret
  exact ⟨by first|rfl|(simp [errW_none,errW_some] <;> rfl)|(simp [*,errW_none,errW_some] <;> rfl)|(simp [errW_none,errW_some];exact ⟨rfl,rfl⟩),by repeat (first|(with_reducible first|exact HB.out|apply below_alloc|apply pw_below_drewN|apply below_drew1|refine below_set ?_ GE311.out)|exact HB.out)⟩

end Go.Proofs.Ytmedlhoahddbmaa.P

-- The tidy form of a set of numbers told by a tail and a ring is one; texts and what they tell.
namespace Go.Proofs.Ytmedlhoahddbmaa.P
open Go.RowKit Go.Proofs.YtmedlhoahddbmaaW.PrintWords Go.Proofs.YtmedlhoahddbmaaW.PrintLast Go.Proofs.YtmedlhoahddbmaaW.PrintMore
set_option linter.unusedVariables false
set_option linter.unusedSimpArgs false
/-- Is a number in the set of a tail and a ring? -/
def hasB (t r : List Bool) (n : Nat) : Bool := if n < t.length then t.getD n false else r.getD ((n - t.length) % r.length) false

/-- No shorter ring tells the same: of each proper divisor's period some place is not met. -/
def Prim (r : List Bool) : Prop := r ≠ [] ∧ ∀ d, 0 < d → d < r.length → d ∣ r.length → ∃ i, i < r.length ∧ r.getD i false ≠ r.getD (i % d) false

/-- The tidy form. -/
def Canon (t r : List Bool) : Prop := Prim r ∧ (t = [] ∨ t.getD (t.length - 1) false ≠ r.getD (r.length - 1) false)

theorem hasB_tail {t r : List Bool} {n : Nat} (h : n < t.length) : hasB t r n = t.getD n false := by simp [hasB, h]
theorem hasB_ring {t r : List Bool} {i : Nat} : hasB t r (t.length + i) = r.getD (i % r.length) false := by
  unfold hasB; rw [if_neg (by omega)]; congr 2; omega
theorem hasB_ring' {t r : List Bool} {n : Nat} (h : t.length ≤ n) : hasB t r n = r.getD ((n - t.length) % r.length) false := by
  unfold hasB; rw [if_neg (by omega)]

/-- f comes again by p, from m on. -/
def Per (f : Nat → Bool) (m p : Nat) : Prop := ∀ n, m ≤ n → f (n + p) = f n

theorem Per.mono {f : Nat → Bool} {m m' p : Nat} (h : Per f m p) (hm : m ≤ m') : Per f m' p := fun n hn => h n (by omega)
theorem Per.mul {f : Nat → Bool} {m p : Nat} (h : Per f m p) : ∀ k, Per f m (k * p)
  | 0 => fun n _ => by simp
  | k + 1 => fun n hn => by
    have h1 := Per.mul h k n hn
    have h2 := h (n + k * p) (by omega)
    rw [Nat.succ_mul, ← Nat.add_assoc, h2, h1]
theorem Per.dvd {f : Nat → Bool} {m p q : Nat} (h : Per f m p) (hd : p ∣ q) : Per f m q := by
  obtain ⟨k, rfl⟩ := hd
  rw [Nat.mul_comm]; exact h.mul k
theorem hasB_per (t r : List Bool) : Per (hasB t r) t.length r.length := fun n hn => by
  rw [hasB_ring' hn, hasB_ring' (by omega)]
  congr 1
  rw [show n + r.length - t.length = (n - t.length) + r.length by omega, Nat.add_mod_right]

/-- From a point far out on, a number and another one of the same rest. -/
theorem Per.mod {f : Nat → Bool} {m p : Nat} (h : Per f m p) (n : Nat) (hn : m ≤ n) : f n = f (m + (n - m) % p) := by
  have h1 := h.mul ((n - m) / p) (m + (n - m) % p) (by omega)
  rw [← h1]
  congr 1
  have := Nat.mod_add_div (n - m) p
  rw [Nat.mul_comm] at this
  omega

/-- Two numbers' greatest divisor, out of both: g + a q = b p. -/
theorem bezout_nat (p : Nat) : ∀ q, 0 < p → ∃ a b, Nat.gcd p q + a * q = b * p := by
  intro q hp
  have key : ∀ n, ∀ p q : Nat, p + q ≤ n → 0 < p → (∃ a b, Nat.gcd p q + a * q = b * p) := by
    intro n
    induction n with
    | zero => intro p q h hp; omega
    | succ n ih =>
      intro p q h hp
      rcases Nat.eq_zero_or_pos q with rfl | hq
      · exact ⟨0, 1, by simp⟩
      · rcases Nat.lt_or_ge q p with hlt | hge
        · -- q < p: swap
          obtain ⟨a, b, e⟩ := ih q (p % q) (by have := Nat.mod_lt p hq; omega) hq
          -- gcd q (p % q) + a (p % q) = b q
          have hg : Nat.gcd q (p % q) = Nat.gcd p q := by rw [Nat.gcd_comm p q, Nat.gcd_rec q p, Nat.gcd_comm]
          rw [hg] at e
          -- p = q (p/q) + p % q : g + a p = (b + a (p/q)) q ; want g + A q = B p
          have hp2 := Nat.mod_add_div p q
          have e2 : Nat.gcd p q + a * p = (b + a * (p / q)) * q := by
            have : a * p = a * (p % q) + a * (p / q) * q := by
              conv => lhs; rw [← hp2]
              rw [Nat.mul_add, Nat.mul_comm q (p / q), Nat.mul_assoc]
            rw [this, Nat.add_mul, ← Nat.add_assoc, e]
          -- g + a p = c q. take B = a' p with...: g + (k p - c) q = (k q - a) p with k large
          refine ⟨(b + a * (p / q) + a) * p - (b + a * (p / q)), (b + a * (p / q) + a) * q - a, ?_⟩
          generalize hc : b + a * (p / q) = c at e2 ⊢
          have h1 : c ≤ (c + a) * p := Nat.le_trans (Nat.le_add_right c a) (Nat.le_mul_of_pos_right _ hp)
          have h2 : a ≤ (c + a) * q := Nat.le_trans (Nat.le_add_left a c) (Nat.le_mul_of_pos_right _ hq)
          rw [Nat.sub_mul, Nat.sub_mul]
          have h3 : c * q ≤ (c + a) * p * q := Nat.mul_le_mul_right q h1
          have h4 : a * p ≤ (c + a) * q * p := Nat.mul_le_mul_right p h2
          have h5 : (c + a) * p * q = (c + a) * q * p := by rw [Nat.mul_assoc, Nat.mul_comm p q, Nat.mul_assoc]
          omega
        · obtain ⟨a, b, e⟩ := ih p (q - p) (by omega) hp
          have hg : Nat.gcd p (q - p) = Nat.gcd p q := Nat.gcd_sub_self_right hge
          rw [hg] at e
          refine ⟨a, b + a, ?_⟩
          have : a * q = a * (q - p) + a * p := by rw [← Nat.mul_add]; congr 1; omega
          rw [this, ← Nat.add_assoc, e, Nat.add_mul]
  exact key (p + q) p q (Nat.le_refl _) hp

theorem Per.gcd {f : Nat → Bool} {m p q : Nat} (hp : 0 < p) (h : Per f m p) (h' : Per f m q) : Per f m (Nat.gcd p q) := by
  obtain ⟨a, b, e⟩ := bezout_nat p q hp
  intro n hn
  have h1 := h'.mul a (n + Nat.gcd p q) (by omega)
  have h2 := h.mul b n hn
  rw [← h1, Nat.add_assoc, e, h2]

theorem prim_period {t r : List Bool} (h : Prim r) {M g : Nat} (hg : 0 < g) (hd : g ∣ r.length) (hM : t.length ≤ M) (hp : Per (hasB t r) M g) : g = r.length := by
  rcases Nat.lt_or_ge g r.length with hlt | hge
  · exfalso
    obtain ⟨i, hi, hne⟩ := h.2 g hg hlt hd
    apply hne
    -- r[i] = f (m + i + k p) with k p large
    have hpos : 0 < r.length := by omega
    have e1 : ∀ j, j < r.length → r.getD j false = hasB t r (t.length + (j + M * r.length)) := by
      intro j hj
      rw [hasB_ring, Nat.add_mul_mod_self_right, Nat.mod_eq_of_lt hj]
    have hMl : M ≤ M * r.length := Nat.le_mul_of_pos_right _ hpos
    have hmod : i % g < r.length := Nat.lt_of_lt_of_le (Nat.mod_lt i hg) (by omega)
    rw [e1 i hi, e1 (i % g) hmod]
    have := hp.mul (i / g) (t.length + (i % g + M * r.length)) (by omega)
    rw [← this]
    congr 1
    have := Nat.mod_add_div i g
    rw [Nat.mul_comm] at this
    omega
  · exact Nat.le_antisymm (Nat.le_of_dvd (by have := h.1; exact List.length_pos_iff.2 this) hd) hge

/-- THE TIDY FORM IS ONE. -/
theorem canon_unique {t r t' r' : List Bool} (h : Canon t r) (h' : Canon t' r') (he : ∀ n, hasB t r n = hasB t' r' n) : t = t' ∧ r = r' := by
  have hf : hasB t r = hasB t' r' := funext he
  have hr : 0 < r.length := List.length_pos_iff.2 h.1.1
  have hr' : 0 < r'.length := List.length_pos_iff.2 h'.1.1
  have p1 : Per (hasB t r) (t.length + t'.length) r.length := (hasB_per t r).mono (by omega)
  have p2 : Per (hasB t r) (t.length + t'.length) r'.length := by rw [hf]; exact (hasB_per t' r').mono (by omega)
  have pg := p1.gcd hr p2
  have hgp : 0 < Nat.gcd r.length r'.length := Nat.gcd_pos_of_pos_left _ hr
  have e1 := prim_period (M := t.length + t'.length) h.1 hgp (Nat.gcd_dvd_left _ _) (by omega) pg
  have e2 := prim_period (t := t') (M := t.length + t'.length) h'.1 hgp (Nat.gcd_dvd_right _ _) (by omega) (by rw [← hf]; exact pg)
  have hl : r.length = r'.length := by omega
  have aux : ∀ {t r t' r' : List Bool}, Canon t' r' → hasB t r = hasB t' r' → r.length = r'.length → 0 < r.length → ¬ t.length < t'.length := by
    intro t r t' r' h' hf hl hr hlt
    rcases h'.2 with h0 | h0
    · rw [h0] at hlt; simp at hlt
    · apply h0
      have a1 : t'.getD (t'.length - 1) false = hasB t r (t'.length - 1) := by rw [hf, hasB_tail (by omega)]
      have a2 : r'.getD (r'.length - 1) false = hasB t r (t'.length - 1 + r.length) := by
        rw [hf, hl, hasB_ring' (by omega)]
        congr 1
        rw [show t'.length - 1 + r'.length - t'.length = r'.length - 1 by omega, Nat.mod_eq_of_lt (by omega)]
      rw [a1, a2, hasB_per t r _ (by omega)]
  have hm : t.length = t'.length := by
    have b1 := aux h' hf hl hr
    have b2 := aux h hf.symm hl.symm hr'
    omega
  constructor
  · apply List.ext_getElem hm
    intro i h1 h2
    have := he i
    rw [hasB_tail h1, hasB_tail h2] at this
    simpa [List.getD_eq_getElem?_getD, h1, h2] using this
  · apply List.ext_getElem hl
    intro i h1 h2
    have := he (t.length + i)
    rw [hasB_ring, hm, hasB_ring, Nat.mod_eq_of_lt h1, Nat.mod_eq_of_lt h2] at this
    simpa [List.getD_eq_getElem?_getD, h1, h2] using this
/-- d parts the ring's length, and all is as d places ahead. -/
def IsPer (r : List Bool) (d : Nat) : Prop := r.length % d = 0 ∧ ∀ i, d ≤ i → i < r.length → r.getD i false = r.getD (i - d) false

theorem IsPer.mod {r : List Bool} {d : Nat} (h : IsPer r d) (hd : 0 < d) : ∀ i, i < r.length → r.getD i false = r.getD (i % d) false := by
  intro i
  induction i using Nat.strongRecOn with
  | _ i ih =>
    intro hi
    rcases Nat.lt_or_ge i d with hlt | hge
    · rw [Nat.mod_eq_of_lt hlt]
    · rw [h.2 i hge hi, ih (i - d) (by omega) (by omega)]
      congr 1
      conv => rhs; rw [show i = (i - d) + d by omega, Nat.add_mod_right]

theorem IsPer.of_mod {r : List Bool} {d : Nat} (hl : r.length % d = 0) (hd : 0 < d) (h : ∀ i, i < r.length → r.getD i false = r.getD (i % d) false) : IsPer r d := by
  refine ⟨hl, fun i hi hlt => ?_⟩
  rw [h i hlt, h (i - d) (by omega)]
  congr 1
  conv => lhs; rw [show i = (i - d) + d by omega, Nat.add_mod_right]

theorem prim_of {r : List Bool} (hr : r ≠ []) (h : ∀ d, 0 < d → d < r.length → ¬ IsPer r d) : Prim r := by
  refine ⟨hr, fun d h0 hlt hd => ?_⟩
  refine Classical.byContradiction fun hn => ?_
  apply h d h0 hlt
  refine IsPer.of_mod (Nat.mod_eq_zero_of_dvd hd) h0 fun i hi => ?_
  exact Classical.byContradiction fun hne => hn ⟨i, hi, hne⟩

theorem take_has {t r : List Bool} {d : Nat} (h : IsPer r d) (h0 : 0 < d) (hd : d ≤ r.length) (x : Nat) : hasB t (r.take d) x = hasB t r x := by
  rcases Nat.lt_or_ge x t.length with hlt | hge
  · rw [hasB_tail hlt, hasB_tail hlt]
  · rw [hasB_ring' hge, hasB_ring' hge]
    have hl : (r.take d).length = d := by rw [List.length_take]; omega
    have hdv : d ∣ r.length := Nat.dvd_of_mod_eq_zero h.1
    rw [hl, h.mod h0 _ (Nat.mod_lt _ (by omega)), Nat.mod_mod_of_dvd _ hdv]
    simp [List.getD_eq_getElem?_getD, List.getElem?_take, Nat.mod_lt _ h0]

/-- The last sign of the tail goes into the ring. -/
def rotR (r : List Bool) : List Bool := r.getD (r.length - 1) false :: r.take (r.length - 1)
theorem rotR_length {r : List Bool} (hr : r ≠ []) : (rotR r).length = r.length := by
  have := List.length_pos_iff.2 hr
  simp [rotR]; omega
theorem rotR_get {r : List Bool} (hr : r ≠ []) {i : Nat} (hi : i < r.length) : (rotR r).getD i false = if i = 0 then r.getD (r.length - 1) false else r.getD (i - 1) false := by
  cases i with
  | zero => simp [rotR]
  | succ i =>
    simp [rotR, List.getD_eq_getElem?_getD, List.getElem?_take]
    rw [if_pos (by omega)]
theorem rot_has {t r : List Bool} (ht : t ≠ []) (hr : r ≠ []) (h : t.getD (t.length - 1) false = r.getD (r.length - 1) false) (x : Nat) :
    hasB (t.take (t.length - 1)) (rotR r) x = hasB t r x := by
  have hm := List.length_pos_iff.2 ht
  have hn := List.length_pos_iff.2 hr
  have hl : (t.take (t.length - 1)).length = t.length - 1 := by rw [List.length_take]; omega
  rcases Nat.lt_or_ge x (t.length - 1) with hlt | hge
  · rw [hasB_tail (by omega), hasB_tail (by omega)]
    simp only [List.getD_eq_getElem?_getD, List.getElem?_take, if_pos hlt]
  · rw [hasB_ring' (by omega), hl, rotR_length hr]
    have hmod := Nat.mod_lt (x - (t.length - 1)) hn
    rw [rotR_get hr hmod]
    rcases Nat.eq_or_lt_of_le hge with he | hgt
    · rw [← he, Nat.sub_self, Nat.zero_mod, if_pos rfl, hasB_tail (by omega), h]
    · rw [hasB_ring' (by omega), show x - (t.length - 1) = (x - t.length) + 1 by omega]
      have hmod2 := Nat.mod_lt (x - t.length) hn
      rcases Nat.eq_or_lt_of_le (show (x - t.length) % r.length + 1 ≤ r.length by omega) with he | hlt
      · have : ((x - t.length) + 1) % r.length = 0 := by rw [Nat.add_mod]; rcases Nat.eq_or_lt_of_le (show 1 ≤ r.length from hn) with h1 | h1
                                                         · rw [← h1]; exact Nat.mod_one _
                                                         · rw [Nat.mod_eq_of_lt h1, he, Nat.mod_self]
        rw [this, if_pos rfl]; congr 1; omega
      · have : ((x - t.length) + 1) % r.length = (x - t.length) % r.length + 1 := by
          rw [Nat.add_mod, Nat.mod_eq_of_lt (show 1 < r.length by omega), Nat.mod_eq_of_lt hlt]
        rw [this, if_neg (by omega), Nat.add_sub_cancel]

theorem prim_rot {r : List Bool} (h : Prim r) : Prim (rotR r) := by
  have hr := h.1
  have hn := List.length_pos_iff.2 hr
  refine prim_of (by simp [rotR]) fun d h0 hlt hp => ?_
  rw [rotR_length hr] at hlt
  have hd : d ∣ r.length := by rw [← rotR_length hr]; exact Nat.dvd_of_mod_eq_zero hp.1
  have e : hasB [r.getD (r.length - 1) false] r = hasB [] (rotR r) := funext fun x => by
    have := rot_has (t := [r.getD (r.length - 1) false]) (by simp) hr (by simp) x
    rw [← this]; simp
  have hper : Per (hasB [r.getD (r.length - 1) false] r) 1 d := by
    rw [e]
    intro n _
    have e1 := take_has (t := []) hp h0 (by rw [rotR_length hr]; omega)
    rw [← e1, ← e1]
    have := hasB_per [] ((rotR r).take d) n (by simp)
    rwa [List.length_take, rotR_length hr, Nat.min_eq_left (by omega)] at this
  have := prim_period (t := [r.getD (r.length - 1) false]) (M := 1) h h0 hd (by simp) hper
  omega

/-- (t', r') is the tidy form of (t, r). -/
structure Tidy (t r t' r' : List Bool) : Prop where
  canon : Canon t' r'
  has : ∀ n, hasB t' r' n = hasB t r n
  tl : t'.length ≤ t.length
  rl : r'.length ≤ r.length
theorem Tidy.same {t r t' r' a b : List Bool} (h : Tidy t r t' r') (h' : Tidy t r a b) : t' = a ∧ r' = b := canon_unique h.canon h'.canon fun n => by rw [h.has, h'.has]
theorem Tidy.pos {t r t' r' : List Bool} (h : Tidy t r t' r') : 0 < r'.length := List.length_pos_iff.2 h.canon.1.1
theorem prim_take {r : List Bool} {d : Nat} (hd : 0 < d) (hdl : d ≤ r.length) (hp : IsPer r d) (hmin : ∀ d', 0 < d' → d' < d → ¬ IsPer r d') : Prim (r.take d) := by
  have hl : (r.take d).length = d := by rw [List.length_take]; omega
  refine prim_of (by intro e; rw [e] at hl; simp at hl; omega) fun d' h0 h1 h2 => ?_
  rw [hl] at h1
  apply hmin d' h0 h1
  have g1 : ∀ i, i < d → (r.take d).getD i false = r.getD i false := fun i hi => by simp only [List.getD_eq_getElem?_getD, List.getElem?_take, if_pos hi]
  have hdd : d' ∣ d := by rw [← hl]; exact Nat.dvd_of_mod_eq_zero h2.1
  refine IsPer.of_mod (Nat.mod_eq_zero_of_dvd (Nat.dvd_trans hdd (Nat.dvd_of_mod_eq_zero hp.1))) h0 fun i hi => ?_
  have a1 := hp.mod hd i hi
  have hm := Nat.mod_lt i hd
  have a2 := h2.mod h0 (i % d) (by rw [hl]; exact hm)
  rw [g1 _ hm, g1 _ (Nat.lt_trans (Nat.mod_lt _ h0) h1), Nat.mod_mod_of_dvd _ hdd] at a2
  rw [a1, a2]

theorem tidy_exists : ∀ (n : Nat) (t r : List Bool), t.length + r.length = n → r ≠ [] → ∃ t' r', Tidy t r t' r' := by
  intro n
  induction n using Nat.strongRecOn with
  | _ n ih =>
    intro t r hn hr
    have hpos := List.length_pos_iff.2 hr
    by_cases hex : ∃ d, 0 < d ∧ d < r.length ∧ IsPer r d
    · obtain ⟨d, h0, hd, hp⟩ := hex
      have hlt : (r.take d).length = d := by rw [List.length_take]; omega
      obtain ⟨t', r', h⟩ := ih (t.length + (r.take d).length) (by omega) t (r.take d) rfl (by intro e; rw [e] at hlt; simp at hlt; omega)
      exact ⟨t', r', h.canon, fun x => by rw [h.has, take_has hp h0 (by omega)], h.tl, by have := h.rl; omega⟩
    · have hprim : Prim r := prim_of hr fun d h0 h1 hp => hex ⟨d, h0, h1, hp⟩
      by_cases ht : t = []
      · exact ⟨t, r, ⟨hprim, .inl ht⟩, fun _ => rfl, Nat.le_refl _, Nat.le_refl _⟩
      · have htp := List.length_pos_iff.2 ht
        by_cases he : t.getD (t.length - 1) false = r.getD (r.length - 1) false
        · obtain ⟨t', r', h⟩ := ih ((t.take (t.length - 1)).length + (rotR r).length) (by rw [rotR_length hr, List.length_take]; omega) (t.take (t.length - 1)) (rotR r) rfl (by simp [rotR])
          exact ⟨t', r', h.canon, fun x => by rw [h.has, rot_has ht hr he], by have := h.tl; rw [List.length_take] at this; omega, by have := h.rl; rw [rotR_length hr] at this; omega⟩
        · exact ⟨t, r, ⟨hprim, .inr he⟩, fun _ => rfl, Nat.le_refl _, Nat.le_refl _⟩

/-- The tidy tail and ring of a set. -/
noncomputable def cn (f : Nat → Bool) : List Bool × List Bool :=
  open Classical in if h : ∃ p : List Bool × List Bool, Canon p.1 p.2 ∧ hasB p.1 p.2 = f then Classical.choose h else ([], [])
theorem cn_uniq {t r : List Bool} {f : Nat → Bool} (h : Canon t r) (hf : hasB t r = f) : cn f = (t, r) := by
  have hx : ∃ p : List Bool × List Bool, Canon p.1 p.2 ∧ hasB p.1 p.2 = f := ⟨(t, r), h, hf⟩
  unfold cn
  rw [dif_pos hx]
  have hs := Classical.choose_spec hx
  obtain ⟨e1, e2⟩ := canon_unique hs.1 h fun n => by rw [hs.2, hf]
  exact Prod.ext e1 e2
theorem Tidy.cn {t r t' r' : List Bool} (h : Tidy t r t' r') : cn (hasB t r) = (t', r') := cn_uniq h.canon (funext h.has)
theorem cn_tidy {t r : List Bool} (hr : r ≠ []) : Tidy t r (cn (hasB t r)).1 (cn (hasB t r)).2 := by
  obtain ⟨t', r', h⟩ := tidy_exists _ t r rfl hr
  rw [h.cn]; exact h

/-- The signs of a set: the first m, and the p behind these. -/
def mkT (f : Nat → Bool) (m : Nat) : List Bool := (List.range m).map f
def mkR (f : Nat → Bool) (m p : Nat) : List Bool := (List.range p).map fun i => f (m + i)
theorem mkT_length (f : Nat → Bool) (m : Nat) : (mkT f m).length = m := by simp [mkT]
theorem mkR_length (f : Nat → Bool) (m p : Nat) : (mkR f m p).length = p := by simp [mkR]
theorem mkT_get (f : Nat → Bool) {m i : Nat} (h : i < m) : (mkT f m).getD i false = f i := by simp [mkT, List.getD_eq_getElem?_getD, h]
theorem mkR_get (f : Nat → Bool) {m p i : Nat} (h : i < p) : (mkR f m p).getD i false = f (m + i) := by simp [mkR, List.getD_eq_getElem?_getD, h]
theorem mkR_ne (f : Nat → Bool) {m p : Nat} (h : 0 < p) : mkR f m p ≠ [] := by intro e; have := mkR_length f m p; rw [e] at this; simp at this; omega
theorem mk_has {f : Nat → Bool} {m p : Nat} (hp : 0 < p) (h : Per f m p) : hasB (mkT f m) (mkR f m p) = f := by
  funext x
  rcases Nat.lt_or_ge x m with hlt | hge
  · rw [hasB_tail (by rw [mkT_length]; exact hlt), mkT_get f hlt]
  · rw [hasB_ring' (by rw [mkT_length]; exact hge), mkT_length, mkR_length, mkR_get f (Nat.mod_lt _ hp), ← h.mod x hge]
theorem mkT_succ (f : Nat → Bool) (m : Nat) : mkT f (m + 1) = mkT f m ++ [f m] := by simp [mkT, List.range_succ]
theorem mkR_succ (f : Nat → Bool) (m p : Nat) : mkR f m (p + 1) = mkR f m p ++ [f (m + p)] := by simp [mkR, List.range_succ]
theorem mkT_add (f : Nat → Bool) (m p : Nat) : mkT f (m + p) = mkT f m ++ mkR f m p := by
  induction p with
  | zero => simp [mkR]
  | succ p ih => rw [← Nat.add_assoc, mkT_succ, ih, mkR_succ, List.append_assoc]
theorem mkT_take (f : Nat → Bool) (m p : Nat) : (mkT f (m + p)).take m = mkT f m := by rw [mkT_add, List.take_left' (mkT_length f m)]
theorem mkT_drop (f : Nat → Bool) (m p : Nat) : (mkT f (m + p)).drop m = mkR f m p := by rw [mkT_add, List.drop_left' (mkT_length f m)]

theorem cn_spec {f : Nat → Bool} {m p : Nat} (hp : 0 < p) (h : Per f m p) : Canon (cn f).1 (cn f).2 ∧ hasB (cn f).1 (cn f).2 = f ∧ (cn f).1.length ≤ m ∧ (cn f).2.length ≤ p := by
  have ht := cn_tidy (t := mkT f m) (mkR_ne f (m := m) hp)
  rw [mk_has hp h] at ht
  refine ⟨ht.canon, funext fun n => by rw [ht.has, mk_has hp h], ?_, ?_⟩
  · have := ht.tl; rwa [mkT_length] at this
  · have := ht.rl; rwa [mkR_length] at this
theorem cn_has {f : Nat → Bool} {m p : Nat} (hp : 0 < p) (h : Per f m p) : hasB (cn f).1 (cn f).2 = f := (cn_spec hp h).2.1
theorem cn_ne {f : Nat → Bool} {m p : Nat} (hp : 0 < p) (h : Per f m p) : (cn f).2 ≠ [] := (cn_spec hp h).1.1.1

/-- The least number by which the rest is the same. -/
def restN (t r : List Bool) (k : Nat) : Nat := if k < t.length then k else t.length + (k - t.length) % r.length
theorem restN_lt {t r : List Bool} (hr : 0 < r.length) (k : Nat) : restN t r k < t.length + r.length := by
  unfold restN
  have := Nat.mod_lt (k - t.length) hr
  split <;> omega
theorem restN_self {t r : List Bool} {k : Nat} (h : k < t.length + r.length) : restN t r k = k := by
  unfold restN
  split
  · rfl
  · rw [Nat.mod_eq_of_lt (by omega)]; omega
theorem restN_idem {t r : List Bool} (hr : 0 < r.length) (k : Nat) : restN t r (restN t r k) = restN t r k := restN_self (restN_lt hr k)
theorem restN_le {t r : List Bool} (k : Nat) : restN t r k ≤ k := by
  unfold restN
  split
  · exact Nat.le_refl _
  · have := Nat.mod_le (k - t.length) r.length; omega
theorem has_restN {t r : List Bool} (hr : 0 < r.length) (k n : Nat) : hasB t r (n + k) = hasB t r (n + restN t r k) := by
  unfold restN
  split
  · rfl
  · rename_i h
    have hp := hasB_per t r
    have h1 := hp.mul ((k - t.length) / r.length) (n + (t.length + (k - t.length) % r.length)) (by omega)
    rw [← h1]
    congr 1
    have := Nat.mod_add_div (k - t.length) r.length
    rw [Nat.mul_comm] at this
    omega
/-- Rests by two lesser numbers are different. -/
theorem rest_diff {t r : List Bool} (h : Canon t r) {i j : Nat} (hij : i < j) (hj : j < t.length + r.length) (he : ∀ n, hasB t r (n + i) = hasB t r (n + j)) : False := by
  have hr := List.length_pos_iff.2 h.1.1
  have hd : Per (hasB t r) i (j - i) := fun n hn => by
    have := he (n - i)
    rw [show n - i + i = n by omega, show n - i + j = n + (j - i) by omega] at this
    exact this.symm
  have hg := (hd.mono (m' := max i t.length) (by omega)).gcd (by omega) ((hasB_per t r).mono (m' := max i t.length) (by omega))
  have hgp : 0 < Nat.gcd (j - i) r.length := Nat.gcd_pos_of_pos_left _ (by omega)
  have e := prim_period (t := t) (M := max i t.length) h.1 hgp (Nat.gcd_dvd_right _ _) (by omega) hg
  have hdv : r.length ∣ j - i := by rw [← e]; exact Nat.gcd_dvd_left _ _
  have hle := Nat.le_of_dvd (by omega) hdv
  rcases Nat.lt_or_ge i t.length with hlt | hge
  · rcases h.2 with h0 | h0
    · rw [h0] at hlt; simp at hlt
    · apply h0
      have h1 := hd (t.length - 1) (by omega)
      rw [hasB_tail (show t.length - 1 < t.length by omega), hasB_ring' (by omega)] at h1
      rw [← h1]
      congr 1
      obtain ⟨c, hc⟩ := hdv
      have hc0 : 0 < c := by rcases Nat.eq_zero_or_pos c with h | h; rw [h, Nat.mul_zero] at hc; omega; exact h
      have hmul : r.length * c = r.length * (c - 1) + r.length := by
        rw [← Nat.mul_succ]; congr 1; omega
      rw [hc, show t.length - 1 + r.length * c - t.length = (r.length - 1) + r.length * (c - 1) by omega, Nat.add_mul_mod_self_left, Nat.mod_eq_of_lt (by omega)]
  · omega
theorem rest_same {t r : List Bool} (h : Canon t r) (i j : Nat) : (∀ n, hasB t r (n + i) = hasB t r (n + j)) ↔ restN t r i = restN t r j := by
  have hr := List.length_pos_iff.2 h.1.1
  constructor
  · intro he
    have he2 : ∀ n, hasB t r (n + restN t r i) = hasB t r (n + restN t r j) := fun n => by rw [← has_restN hr, ← has_restN hr, he]
    rcases Nat.lt_trichotomy (restN t r i) (restN t r j) with hlt | heq | hgt
    · exact (rest_diff h hlt (restN_lt hr j) he2).elim
    · exact heq
    · exact (rest_diff h hgt (restN_lt hr i) fun n => (he2 n).symm).elim
  · intro he n
    rw [has_restN hr i, has_restN hr j, he]

theorem bitsL_length : ∀ {s : List UInt8} {l : List Bool}, bitsL s = some l → l.length = s.length
  | [], l, h => by simp [bitsL] at h; subst h; rfl
  | c :: cs, l, h => by
    simp only [bitsL] at h
    split at h
    · obtain ⟨q, hq, rfl⟩ := Option.map_eq_some_iff.1 h; simp [bitsL_length hq]
    · split at h
      · obtain ⟨q, hq, rfl⟩ := Option.map_eq_some_iff.1 h; simp [bitsL_length hq]
      · cases h
theorem bitsL_sgn : ∀ l : List Bool, bitsL (l.map sgn) = some l
  | [] => rfl
  | b :: l => by cases b <;> simp [bitsL, sgn, bitsL_sgn l]
theorem byteArray_empty_chrs : chrs (⟨#[]⟩ : ByteArray) = [] := rfl
/-- A set text: its tail and its ring. -/
def parse (s : List UInt8) : Option (List Bool × List Bool) :=
  if s.findIdx (· == 40) + 2 < s.length ∧ s[s.length - 1]? = some 41 then
    match bitsL (s.take (s.findIdx (· == 40))), bitsL ((s.take (s.length - 1)).drop (s.findIdx (· == 40) + 1)) with
    | some a, some b => if a.length ≤ 60 ∧ b.length ≤ 60 then some (a, b) else none
    | _, _ => none
  else none
def parsed (s : ByteArray) (t r : List Bool) : List Bool × List Bool × Bool := match parse (chrs s) with | some (a, b) => (a, b, true) | none => (t, r, false)

theorem parse_some {s : List UInt8} {a b : List Bool} (h : parse s = some (a, b)) : a.length ≤ 60 ∧ b.length ≤ 60 ∧ b ≠ [] := by
  unfold parse at h
  split at h
  · rename_i hc
    split at h
    · rename_i x y hx hy
      split at h
      · rename_i hl
        simp only [Option.some.injEq, Prod.mk.injEq] at h
        obtain ⟨rfl, rfl⟩ := h
        refine ⟨hl.1, hl.2, fun e => ?_⟩
        have := bitsL_length hy
        rw [e] at this
        simp at this
        omega
      · cases h
    · cases h
  · cases h


/-- The text of a set, and true; false if it is too long. -/
def txt (p : List Bool × List Bool) : ByteArray × Bool := if p.1.length ≤ 60 ∧ p.2.length ≤ 60 then (textOf p.1 p.2, true) else (⟨#[]⟩, false)
theorem txt_ok {p : List Bool × List Bool} (h1 : p.1.length ≤ 60) (h2 : p.2.length ≤ 60) : txt p = (textOf p.1 p.2, true) := by unfold txt; rw [if_pos ⟨h1, h2⟩]
theorem chrs_append (a b : ByteArray) : chrs (a ++ b) = chrs a ++ chrs b := by simp [chrs, ByteArray.data_append]
theorem parse_ne {s : List UInt8} {a b : List Bool} (h : parse s = some (a, b)) : b ≠ [] := (parse_some h).2.2
theorem findIdx_sgn (t : List Bool) (l : List UInt8) : (t.map sgn ++ 40 :: l).findIdx (· == 40) = t.length := by
  induction t with
  | nil => rfl
  | cons b t ih =>
    rw [List.map_cons, List.cons_append, List.findIdx_cons, ih]
    cases b <;> rfl
/-- A text reads as what it was written of. -/
theorem parse_textOf {t r : List Bool} (ht : t.length ≤ 60) (hr : r.length ≤ 60) (hn : r ≠ []) : parse (chrs (textOf t r)) = some (t, r) := by
  have hpos := List.length_pos_iff.2 hn
  have e : chrs (textOf t r) = t.map sgn ++ 40 :: (r.map sgn ++ [41]) := by rw [chrs_textOf]; simp
  rw [e]
  unfold parse
  rw [findIdx_sgn]
  have hl : (t.map sgn ++ 40 :: (r.map sgn ++ [41])).length = t.length + (r.length + 2) := by simp
  rw [hl, if_pos]
  · have e1 : (t.map sgn ++ 40 :: (r.map sgn ++ [41])).take t.length = t.map sgn := by rw [List.take_left']; simp
    have e2 : ((t.map sgn ++ 40 :: (r.map sgn ++ [41])).take (t.length + (r.length + 2) - 1)).drop (t.length + 1) = r.map sgn := by
      rw [show t.map sgn ++ 40 :: (r.map sgn ++ [41]) = (t.map sgn ++ 40 :: r.map sgn) ++ [41] by simp, List.take_left' (by simp <;> omega), show t.map sgn ++ 40 :: r.map sgn = (t.map sgn ++ [40]) ++ r.map sgn by simp, List.drop_left' (by simp)]
    rw [e1, e2, bitsL_sgn, bitsL_sgn]
    simp only
    rw [if_pos ⟨ht, hr⟩]
  · refine ⟨by omega, ?_⟩
    rw [show t.map sgn ++ 40 :: (r.map sgn ++ [41]) = (t.map sgn ++ 40 :: r.map sgn) ++ [41] by simp, List.getElem?_append_right (by simp <;> omega)]
    rw [show t.length + (r.length + 2) - 1 - (t.map sgn ++ 40 :: r.map sgn).length = 0 by simp <;> omega]; rfl
theorem textOf_inj {t r t' r' : List Bool} (ht : t.length ≤ 60) (hr : r.length ≤ 60) (hn : r ≠ []) (ht' : t'.length ≤ 60) (hr' : r'.length ≤ 60) (hn' : r' ≠ []) (h : textOf t r = textOf t' r') : t = t' ∧ r = r' := by
  have h1 := parse_textOf ht hr hn
  rw [h, parse_textOf ht' hr' hn'] at h1
  simp only [Option.some.injEq, Prod.mk.injEq] at h1
  exact ⟨h1.1.symm, h1.2.symm⟩
theorem textOf_size (t r : List Bool) : (textOf t r).size = t.length + r.length + 2 := by
  rw [← chrs_length, chrs_textOf]; simp <;> omega


end Go.Proofs.Ytmedlhoahddbmaa.P

-- Texts of rests: as many as the tidy text has signs.
namespace Go.Proofs.Ytmedlhoahddbmaa.P
open Go.RowKit Go.Proofs.YtmedlhoahddbmaaW.PrintWords Go.Proofs.YtmedlhoahddbmaaW.PrintLast Go.Proofs.YtmedlhoahddbmaaW.PrintMore
set_option linter.unusedVariables false
set_option linter.unusedSimpArgs false

/-- A set, k taken away. -/
def shf (f : Nat → Bool) (k : Nat) : Nat → Bool := fun n => f (n + k)
theorem shf_per {f : Nat → Bool} {m p : Nat} (h : Per f m p) (k : Nat) : Per (shf f k) (m - k) p := fun n hn => by
  unfold shf
  rw [show n + p + k = n + k + p by omega]; exact h _ (by omega)
/-- The text of the rest by k. -/
noncomputable def rtext (f : Nat → Bool) (k : Nat) : ByteArray := textOf (cn (shf f k)).1 (cn (shf f k)).2
/-- The place of the rest by k. -/
noncomputable def rpl (f : Nat → Bool) (k : Nat) : Nat := restN (cn f).1 (cn f).2 k
/-- How many rests. -/
noncomputable def rnum (f : Nat → Bool) : Nat := (cn f).1.length + (cn f).2.length
section
variable {f : Nat → Bool} {m p : Nat}
theorem rpl_lt (hp : 0 < p) (h : Per f m p) (k : Nat) : rpl f k < rnum f := restN_lt (List.length_pos_iff.2 (cn_ne hp h)) k
theorem rpl_self {k : Nat} (hk : k < rnum f) : rpl f k = k := restN_self hk
theorem rpl_le (k : Nat) : rpl f k ≤ k := restN_le k
theorem rnum_le (hp : 0 < p) (h : Per f m p) : rnum f ≤ m + p := by
  have := cn_spec hp h
  unfold rnum; omega
theorem rpl_eq (hp : 0 < p) (h : Per f m p) (i j : Nat) : shf f i = shf f j ↔ rpl f i = rpl f j := by
  have hs := cn_spec hp h
  have := rest_same hs.1 i j
  rw [hs.2.1] at this
  constructor
  · intro e; exact this.1 fun n => congrFun e n
  · intro e; exact funext (this.2 e)
theorem rtext_eq (hp : 0 < p) (h : Per f m p) (hm : m ≤ 60) (hp2 : p ≤ 60) (i j : Nat) : rtext f i = rtext f j ↔ rpl f i = rpl f j := by
  rw [← rpl_eq hp h]
  have si := cn_spec hp (shf_per h i)
  have sj := cn_spec hp (shf_per h j)
  constructor
  · intro e
    obtain ⟨e1, e2⟩ := textOf_inj (by omega) (by omega) si.1.1.1 (by omega) (by omega) sj.1.1.1 e
    rw [← si.2.1, ← sj.2.1, e1, e2]
  · intro e; unfold rtext; rw [e]
end

end Go.Proofs.Ytmedlhoahddbmaa.P

-- The tidy text of a text.
namespace Go.Proofs.Ytmedlhoahddbmaa.P
open Go.RowKit Go.Proofs.YtmedlhoahddbmaaW.PrintWords Go.Proofs.YtmedlhoahddbmaaW.PrintLast Go.Proofs.YtmedlhoahddbmaaW.PrintMore
set_option linter.unusedVariables false
set_option linter.unusedSimpArgs false

theorem parse_len {s : List UInt8} {a b : List Bool} (h : parse s = some (a, b)) : s.length = a.length + b.length + 2 := by
  unfold parse at h
  split at h
  · rename_i hc
    split at h
    · rename_i x y hx hy
      split at h
      · simp only [Option.some.injEq, Prod.mk.injEq] at h
        obtain ⟨rfl, rfl⟩ := h
        have h1 := bitsL_length hx
        have h2 := bitsL_length hy
        simp only [List.length_take, List.length_drop] at h1 h2
        omega
      · cases h
    · cases h
  · cases h
/-- The set of a text. -/
def setf (s : List UInt8) : Nat → Bool := match parse s with | some (a, b) => hasB a b | none => fun _ => false
theorem setf_some {s : List UInt8} {a b : List Bool} (h : parse s = some (a, b)) : setf s = hasB a b := by unfold setf; rw [h]
/-- What SetTidy answers. -/
noncomputable def tdy (s : List UInt8) : ByteArray × Bool := match parse s with | some (a, b) => (textOf (cn (hasB a b)).1 (cn (hasB a b)).2, true) | none => (⟨#[]⟩, false)
theorem tdy_some {s : List UInt8} {a b : List Bool} (h : parse s = some (a, b)) : tdy s = (textOf (cn (hasB a b)).1 (cn (hasB a b)).2, true) := by unfold tdy; rw [h]
theorem tdy_none {s : List UInt8} (h : parse s = none) : tdy s = (⟨#[]⟩, false) := by unfold tdy; rw [h]
/-- The tidy text is a text of the same set, tail and ring tidy. -/
theorem parse_cn {f : Nat → Bool} {m p : Nat} (hp : 0 < p) (h : Per f m p) (hm : (cn f).1.length ≤ 60) (hp2 : (cn f).2.length ≤ 60) : parse (chrs (textOf (cn f).1 (cn f).2)) = some ((cn f).1, (cn f).2) :=
  parse_textOf hm hp2 (cn_ne hp h)
theorem cn_cn {f : Nat → Bool} {m p : Nat} (hp : 0 < p) (h : Per f m p) : cn (hasB (cn f).1 (cn f).2) = cn f := by rw [cn_has hp h]
theorem parse_per {s : List UInt8} {a b : List Bool} (h : parse s = some (a, b)) : 0 < b.length ∧ Per (hasB a b) a.length b.length := ⟨List.length_pos_iff.2 (parse_some h).2.2, hasB_per a b⟩
theorem parse_tdy {s : List UInt8} {a b : List Bool} (h : parse s = some (a, b)) : parse (chrs (tdy s).1) = some ((cn (hasB a b)).1, (cn (hasB a b)).2) := by
  obtain ⟨h1, h2⟩ := parse_per h
  have h3 := (cn_spec h1 h2).2.2
  have h4 := parse_some h
  rw [tdy_some h]
  exact parse_cn h1 h2 (by omega) (by omega)
theorem tdy_tdy {s : List UInt8} {a b : List Bool} (h : parse s = some (a, b)) : tdy (chrs (tdy s).1) = tdy s := by
  obtain ⟨h1, h2⟩ := parse_per h
  rw [tdy_some (parse_tdy h), tdy_some h, cn_cn h1 h2]
theorem tdy_size {s : List UInt8} {a b : List Bool} (h : parse s = some (a, b)) : (tdy s).1.size ≤ s.length := by
  obtain ⟨h1, h2⟩ := parse_per h
  have h3 := (cn_spec h1 h2).2.2
  rw [tdy_some h, textOf_size, parse_len h]
  show (cn (hasB a b)).1.length + _ + 2 ≤ _
  omega
/-- Whether two texts tell the same set. -/
noncomputable def sameS (s t : List UInt8) : Bool := (tdy s).2 && (tdy t).2 && ((tdy s).1.toList == (tdy t).1.toList)
theorem tdy_ok {s : List UInt8} : (tdy s).2 = (parse s).isSome := by
  cases h : parse s with
  | none => rw [tdy_none h]; rfl
  | some ab => rw [tdy_some (a := ab.1) (b := ab.2) h]; rfl
theorem sameS_comm (s t : List UInt8) : sameS s t = sameS t s := by
  unfold sameS
  have e : ((tdy s).1.toList == (tdy t).1.toList) = ((tdy t).1.toList == (tdy s).1.toList) := by
    rw [Bool.eq_iff_iff, beq_iff_eq, beq_iff_eq]; exact eq_comm
  rw [e, Bool.and_comm (tdy s).2]
theorem toList_inj {a b : ByteArray} (h : a.toList = b.toList) : a = b := by
  rw [ByteArray.toList_eq, ByteArray.toList_eq] at h
  exact chrs_inj h
theorem sameS_some {s t : List UInt8} {a b c d : List Bool} (h : parse s = some (a, b)) (h' : parse t = some (c, d)) : sameS s t = true ↔ hasB a b = hasB c d := by
  obtain ⟨h1, h2⟩ := parse_per h
  obtain ⟨h1', h2'⟩ := parse_per h'
  have s1 := cn_spec h1 h2
  have s2 := cn_spec h1' h2'
  have q1 := parse_some h
  have q2 := parse_some h'
  unfold sameS
  rw [tdy_some h, tdy_some h']
  simp only [Bool.true_and, Bool.and_true, beq_iff_eq]
  constructor
  · intro e
    have := textOf_inj (by omega) (by omega) (cn_ne h1 h2) (by omega) (by omega) (cn_ne h1' h2') (toList_inj e)
    rw [← s1.2.1, ← s2.2.1, this.1, this.2]
  · intro e; rw [e]

end Go.Proofs.Ytmedlhoahddbmaa.P

-- Two sets together: from which number on, and by how many, both come again.
namespace Go.Proofs.Ytmedlhoahddbmaa.P
open Go.RowKit Go.Proofs.YtmedlhoahddbmaaW.PrintWords Go.Proofs.YtmedlhoahddbmaaW.PrintLast Go.Proofs.YtmedlhoahddbmaaW.PrintMore
set_option linter.unusedVariables false
set_option linter.unusedSimpArgs false

/-- Whether something holds. -/
noncomputable def dec (p : Prop) : Bool := @decide p (Classical.propDecidable p)
theorem dec_iff {p : Prop} : dec p = true ↔ p := by unfold dec; exact @decide_eq_true_iff p (Classical.propDecidable p)
theorem dec_true {p : Prop} (h : p) : dec p = true := dec_iff.2 h
theorem dec_false {p : Prop} (h : ¬ p) : dec p = false := by
  cases e : dec p with
  | false => rfl
  | true => exact absurd (dec_iff.1 e) h
theorem dec_congr {p q : Prop} (h : p ↔ q) : dec p = dec q := by rw [show p = q from propext h]
theorem Per.lcm_left {f : Nat → Bool} {m p : Nat} (h : Per f m p) (m' p' : Nat) : Per f (max m m') (Nat.lcm p p') := (h.mono (by omega)).dvd (Nat.dvd_lcm_left p p')
theorem Per.lcm_right {f : Nat → Bool} {m p : Nat} (h : Per f m p) (m' p' : Nat) : Per f (max m' m) (Nat.lcm p' p) := (h.mono (by omega)).dvd (Nat.dvd_lcm_right p' p)
theorem per_all {f g : Nat → Bool} {m p : Nat} (hp : 0 < p) (hf : Per f m p) (hg : Per g m p) {q : Bool → Bool → Prop} (h : ∀ n, n < m + p → q (f n) (g n)) : ∀ n, q (f n) (g n) := fun n => by
  rcases Nat.lt_or_ge n m with hn | hn
  · exact h n (by omega)
  · rw [hf.mod n hn, hg.mod n hn]
    exact h _ (by have := Nat.mod_lt (n - m) hp; omega)
theorem pair_per {f g : Nat → Bool} {m p : Nat} (hf : Per f m p) (hg : Per g m p) (q : Bool → Bool → Bool) : Per (fun n => q (f n) (g n)) m p := fun n hn => by
  show q (f (n + p)) (g (n + p)) = _
  rw [hf n hn, hg n hn]
theorem lcm_small {m n : Nat} (hm : m ≤ 60) (hn : n ≤ 60) : Nat.lcm m n ≤ 3600 := by
  have h1 : Nat.lcm m n ≤ m * n := by unfold Nat.lcm; exact Nat.div_le_self _ _
  have h2 : m * n ≤ 60 * 60 := Nat.mul_le_mul hm hn
  omega
/-- Whether each number of the first one is in the second one. -/
noncomputable def bel (s t : List UInt8) : Bool := (parse s).isSome && (parse t).isSome && dec (∀ n, setf s n = true → setf t n = true)
theorem bel_some {s t : List UInt8} {a b c d : List Bool} (h : parse s = some (a, b)) (h' : parse t = some (c, d)) : bel s t = dec (∀ n, hasB a b n = true → hasB c d n = true) := by
  unfold bel; rw [h, h', setf_some h, setf_some h']; rfl
theorem bel_none1 {s t : List UInt8} (h : parse s = none) : bel s t = false := by unfold bel; rw [h]; rfl
theorem bel_none2 {s t : List UInt8} (h : parse t = none) : bel s t = false := by unfold bel; rw [h]; simp
theorem sameS_none1 {s t : List UInt8} (h : parse s = none) : sameS s t = false := by unfold sameS; rw [tdy_none h]; rfl
theorem sameS_none2 {s t : List UInt8} (h : parse t = none) : sameS s t = false := by unfold sameS; rw [tdy_none h]; simp
theorem bel_same (s t : List UInt8) : (bel s t && bel t s) = sameS s t := by
  cases h : parse s with
  | none => rw [bel_none1 h, sameS_none1 h]; rfl
  | some ab =>
    cases h' : parse t with
    | none => rw [bel_none2 h', sameS_none2 h']; rfl
    | some cd =>
      rw [Bool.eq_iff_iff, Bool.and_eq_true, bel_some (a := ab.1) (b := ab.2) (c := cd.1) (d := cd.2) h h', bel_some (a := cd.1) (b := cd.2) (c := ab.1) (d := ab.2) h' h, dec_iff, dec_iff, sameS_some (a := ab.1) (b := ab.2) (c := cd.1) (d := cd.2) h h']
      constructor
      · rintro ⟨h1, h2⟩
        funext n
        rw [Bool.eq_iff_iff]
        exact ⟨h1 n, h2 n⟩
      · intro e; rw [e]; exact ⟨fun _ x => x, fun _ x => x⟩

/-- What a set of two ones is. -/
noncomputable def two (op : Bool → Bool → Bool) (s t : List UInt8) : ByteArray × Bool := if (parse s).isSome && (parse t).isSome then txt (cn fun n => op (setf s n) (setf t n)) else (⟨#[]⟩, false)

end Go.Proofs.Ytmedlhoahddbmaa.P

-- slices.IndexFunc and slices.ContainsFunc over a question that is answered.
namespace Go.Proofs.Ytmedlhoahddbmaa.P
open Go.RowKit Go.Proofs.YtmedlhoahddbmaaW.PrintWords Go.Proofs.YtmedlhoahddbmaaW.PrintLast Go.Proofs.YtmedlhoahddbmaaW.PrintMore
set_option linter.unusedVariables false
set_option linter.unusedSimpArgs false

/-- Whether a question holds of some number of a list. -/
noncomputable def anyI (l : List Int) (q : Int → Bool) : Bool := dec (∃ i : Nat, i < l.length ∧ q (rd l (i : Int)) = true)

set_option maxHeartbeats 8000000 in
set_option maxRecDepth 100000 in
theorem indexFunc_calls (l : List Int) (hl : l.length ≤ 1000000000000) (A : Option Addr) (c : Nat) (g : Nat) (lb : Array Value) (q : Int → Bool) (w : World) (hC : Kd.C (Kd.int .i64) w A l.length l) (hc : l.length ≤ c)
    (eg : ∀ args w, (callFunc g args).run Try.prog w = .ok (.enter g args) w)
    (hh : ∀ (W : World) (i : Nat), Below w.heap.size w W → i < l.length → Calls Try.prog g (#[.int .i64 (rd l (i : Int))] ++ lb) W fun e w' => e = .returned (.bool (q (rd l (i : Int)))) ∧ Below W.heap.size W w') :
    Calls Try.prog 24 #[.slice A l.length c, .func (.func g) #[] lb] w fun e w' => ∃ v : Int, e = .returned (.int .i64 v) ∧ decide (v ≥ 0) = anyI l q ∧ Below w.heap.size w w' := by
  have HC := Aside0.mk hC
  have HH := Aside0.mk hh
  have HLN := Aside0.mk hl
  clear hC hh hl
  go_enter Try.func24, Try.ntmps24
  go_wp2
  go_loopg [8] l.length (fun gg s8 wr => ∃ i : Nat, i ≤ l.length ∧ l.length - i ≤ gg ∧ s8 = .int .i64 i ∧ Aside0 (∀ j : Nat, j < i → q (rd l (j : Int)) = false) ∧ Aside0 (Below w.heap.size w wr))
  case atStart => exact ⟨0, Nat.zero_le _, by omega, rfl, ⟨fun j hj => by omega⟩, ⟨by repeat (first | exact Below.refl _ _ | apply below_drew1)⟩⟩
  case round =>
    obtain ⟨i, hi, hgg, rfl, HF, HB⟩ := hrel
    by_cases hlt : i < l.length
    · have HC1 := Aside0.mk (Kd.C_below HC.out HB.out)
      have p1 : (0 : Int) ≤ (i : Int) := by omega
      have q1 : (i : Int) < (l.length : Int) := by omega
      obtain ⟨ad1, e1, hx1⟩ := Kd.at_int HC1.out (i : Int) p1 q1
      rw [Int.toNat_natCast] at hx1
      have HCall := Aside0.mk (fun W hW => HH.out W i hW hlt)
      cases hv : q (rd l (i : Int)) with
      | true =>
        have HR : decide ((i : Int) ≥ 0) = anyI l q := by unfold anyI; rw [dec_true ⟨i, hlt, hv⟩]; simp
        have HRA := Aside0.mk HR
        rw [hv] at HCall
        clear hv HR
        cases e1
        go_wp2_with (go_at_fn g; refine (HCall.out _ (by repeat (first | exact HB.out | apply below_drew1))).mono ?_; rintro e w1 ⟨rfl, hd⟩; have HB1 := Aside0.mk (below_step (by repeat (first | exact HB.out | apply below_drew1)) hd); clear hd)
        go_ret
        exact ⟨_, rfl, HRA.out, HB1.out⟩
      | false =>
        have HV := Aside0.mk hv
        rw [hv] at HCall
        clear hv
        cases e1
        go_wp2_with (go_at_fn g; refine (HCall.out _ (by repeat (first | exact HB.out | apply below_drew1))).mono ?_; rintro e w1 ⟨rfl, hd⟩; have HB1 := Aside0.mk (below_step (by repeat (first | exact HB.out | apply below_drew1)) hd); clear hd)
        go_roundg (l.length - (i + 1))
        case measure => omega
        case rel => exact ⟨i + 1, by omega, by omega, congrArg (Value.int .i64) (wsucc (by have := HLN.out; omega)), ⟨fun j hj => by
          rcases Nat.lt_or_ge j i with h | h
          · exact HF.out j h
          · rw [show j = i by omega]; exact HV.out⟩, HB1⟩
    · have e : i = l.length := by omega
      subst e
      have HR : decide ((-1 : Int) ≥ 0) = anyI l q := by
        unfold anyI
        rw [dec_false (fun ⟨j, h1, h2⟩ => by rw [HF.out j h1] at h2; cases h2)]; rfl
      have HRA := Aside0.mk HR
      clear HR
      go_wp2
      go_ret
      exact ⟨_, rfl, HRA.out, HB.out⟩
set_option maxHeartbeats 8000000 in
set_option maxRecDepth 100000 in
theorem containsFunc_calls (l : List Int) (hl : l.length ≤ 1000000000000) (A : Option Addr) (c : Nat) (g : Nat) (lb : Array Value) (q : Int → Bool) (w : World) (hC : Kd.C (Kd.int .i64) w A l.length l) (hc : l.length ≤ c)
    (eg : ∀ args w, (callFunc g args).run Try.prog w = .ok (.enter g args) w)
    (hh : ∀ (W : World) (i : Nat), Below w.heap.size w W → i < l.length → Calls Try.prog g (#[.int .i64 (rd l (i : Int))] ++ lb) W fun e w' => e = .returned (.bool (q (rd l (i : Int)))) ∧ Below W.heap.size W w') :
    Calls Try.prog 12 #[.slice A l.length c, .func (.func g) #[] lb] w fun e w' => e = .returned (.bool (anyI l q)) ∧ Below w.heap.size w w' := by
  have HX := Aside0.mk (indexFunc_calls l hl A c g lb q w hC hc eg hh)
  clear hC hh hl
  go_enter Try.func12, Try.ntmps12
  go_wp2_with (go_at_call 24; refine HX.out.mono ?_; rintro e w1 ⟨v, rfl, hv, hd⟩; have HV := Aside0.mk hv; have HB := Aside0.mk hd; clear hv hd)
  go_ret
  exact ⟨by rw [← HV.out]; rfl, HB.out⟩
end Go.Proofs.Ytmedlhoahddbmaa.P

-- Whether some sign tells a number.
namespace Go.Proofs.Ytmedlhoahddbmaa.P
open Go.RowKit Go.Proofs.YtmedlhoahddbmaaW.PrintWords Go.Proofs.YtmedlhoahddbmaaW.PrintLast Go.Proofs.YtmedlhoahddbmaaW.PrintMore
set_option linter.unusedVariables false
set_option linter.unusedSimpArgs false

/-- Whether some sign from i on tells a number. -/
noncomputable def anyFrom (l : List Bool) (i : Nat) : Bool := dec (∃ j, i ≤ j ∧ j < l.length ∧ l.getD j false = true)
theorem anyFrom_end (l : List Bool) : anyFrom l l.length = false := dec_false fun ⟨j, a, b, _⟩ => by omega
theorem anyFrom_step {l : List Bool} {i : Nat} (hi : i < l.length) : anyFrom l i = (l.getD i false || anyFrom l (i + 1)) := by
  unfold anyFrom
  cases h : l.getD i false with
  | true => rw [dec_true ⟨i, Nat.le_refl _, hi, h⟩]; rfl
  | false =>
    rw [Bool.false_or]
    apply dec_congr
    constructor
    · rintro ⟨j, a, b, c⟩
      rcases Nat.eq_or_lt_of_le a with rfl | a
      · rw [h] at c; cases c
      · exact ⟨j, a, b, c⟩
    · rintro ⟨j, a, b, c⟩; exact ⟨j, by omega, b, c⟩
theorem anyFrom_has {t r : List Bool} (hr : 0 < r.length) : (anyFrom r 0 || anyFrom t 0) = dec (∃ m, hasB t r m = true) := by
  rw [Bool.eq_iff_iff, Bool.or_eq_true]
  unfold anyFrom
  rw [dec_iff, dec_iff, dec_iff]
  constructor
  · rintro (⟨j, _, b, c⟩ | ⟨j, _, b, c⟩)
    · exact ⟨t.length + j, by rw [hasB_ring, Nat.mod_eq_of_lt b]; exact c⟩
    · exact ⟨j, by rw [hasB_tail b]; exact c⟩
  · rintro ⟨m, h⟩
    rcases Nat.lt_or_ge m t.length with h1 | h1
    · rw [hasB_tail h1] at h; exact .inr ⟨m, Nat.zero_le _, h1, h⟩
    · rw [hasB_ring' h1] at h; exact .inl ⟨_, Nat.zero_le _, Nat.mod_lt _ hr, h⟩
end Go.Proofs.Ytmedlhoahddbmaa.P

-- impl.set.has asks for the place.
namespace Go.Proofs.Ytmedlhoahddbmaa.P
open Go.RowKit Go.Proofs.YtmedlhoahddbmaaW.PrintWords Go.Proofs.YtmedlhoahddbmaaW.PrintLast Go.Proofs.YtmedlhoahddbmaaW.PrintMore
set_option linter.unusedVariables false
set_option linter.unusedSimpArgs false

theorem ihas_f (t r : List Bool) (hr : r ≠ []) (hl : t.length + r.length ≤ 70368744177664) (n : Nat) (hn : n ≤ 70368744177664) : impl_set_has.f t r n = some (hasB t r n) := by
  have hpos := List.length_pos_iff.2 hr
  unfold impl_set_has.f
  rw [if_neg (by omega)]
  by_cases h : n < t.length
  · rw [if_pos (by omega), if_pos (by omega), rdOf_nat, hasB_tail h]
  · have hm := Nat.mod_lt (n - t.length) hpos
    have e : Int.tmod (wrap64 ((n : Int) - (t.length : Int))) (r.length : Int) = (((n - t.length) % r.length : Nat) : Int) := by
      rw [w64 (by omega) (by omega), show (n : Int) - (t.length : Int) = ((n - t.length : Nat) : Int) by omega, Int.tmod_eq_emod_of_nonneg (by omega)]; rfl
    rw [if_neg (by omega), if_neg (by omega), e, if_pos (by omega), if_pos (by omega), rdOf_nat, hasB_ring' (by omega)]
theorem ihas_neg (t r : List Bool) (n : Int) (hn : n < 0) : impl_set_has.f t r n = some false := by unfold impl_set_has.f; rw [if_pos hn]

end Go.Proofs.Ytmedlhoahddbmaa.P

-- impl.set.below: all numbers of a set less than n.
namespace Go.Proofs.Ytmedlhoahddbmaa.P
open Go.RowKit Go.Proofs.YtmedlhoahddbmaaW.PrintWords Go.Proofs.YtmedlhoahddbmaaW.PrintLast Go.Proofs.YtmedlhoahddbmaaW.PrintMore
set_option linter.unusedVariables false
set_option linter.unusedSimpArgs false

/-- All numbers less than n. -/
def blw (f : Nat → Bool) (n : Nat) : List Int := ((List.range n).filter f).map Int.ofNat
theorem blw_succ (f : Nat → Bool) (n : Nat) : blw f (n + 1) = if f n = true then blw f n ++ [(n : Int)] else blw f n := by
  unfold blw
  rw [List.range_succ, List.filter_append]
  cases h : f n <;> simp [h]
theorem blw_length (f : Nat → Bool) (n : Nat) : (blw f n).length ≤ n := by
  unfold blw
  rw [List.length_map]
  have := List.length_filter_le f (List.range n)
  rwa [List.length_range] at this
theorem blw_pos (f : Nat → Bool) (n : Nat) : 0 < (blw f n).length ↔ ∃ m, m < n ∧ f m = true := by
  unfold blw
  rw [List.length_map, List.length_pos_iff_exists_mem]
  constructor
  · rintro ⟨m, h⟩; obtain ⟨h1, h2⟩ := List.mem_filter.1 h; exact ⟨m, List.mem_range.1 h1, h2⟩
  · rintro ⟨m, h1, h2⟩; exact ⟨m, List.mem_filter.2 ⟨List.mem_range.2 h1, h2⟩⟩
theorem blw_l0 (a b : List Bool) (hb : b ≠ []) (hl : a.length + b.length ≤ 1000000) (n : Nat) (hn : n ≤ 1000000) : ∀ (e i : Nat), i ≤ n → n - i = e →
    Ev (fun k => impl_set_below.l0 k (blw (hasB a b) i) n i a b) (blw (hasB a b) n) := by
  intro e
  induction e with
  | zero =>
    intro i hi he
    have e : i = n := by omega
    subst e
    refine Ev.step (f := fun k => some (blw (hasB a b) i)) (fun k => ?_) (Ev.now _)
    simp only [impl_set_below.l0]; rw [if_neg (by omega)]
  | succ e ih =>
    intro i hi he
    have e1 := ihas_f a b hb (by omega) i (by omega)
    have hih := ih (i + 1) (by omega) (by omega)
    have hlen := blw_length (hasB a b) i
    rw [blw_succ] at hih
    refine Ev.step (fun k => ?_) hih
    simp only [impl_set_below.l0]
    rw [if_pos (by omega), e1, wsucc (by omega)]
    simp only [Option.bind_some]
    cases h : hasB a b i with
    | true => rw [if_pos (by trivial), if_pos (by omega), if_pos (by trivial)]
    | false => rw [if_neg (by decide), if_neg (by decide)]
theorem iblw_f (a b : List Bool) (hb : b ≠ []) (hl : a.length + b.length ≤ 1000000) (n : Nat) (hn : n ≤ 1000000) : Ev (fun k => impl_set_below.f k a b n) (blw (hasB a b) n) :=
  blw_l0 a b hb hl n hn _ 0 (Nat.zero_le _) rfl
end Go.Proofs.Ytmedlhoahddbmaa.P

-- impl.in: a number in a range.
namespace Go.Proofs.Ytmedlhoahddbmaa.P
open Go.RowKit Go.Proofs.YtmedlhoahddbmaaW.PrintWords Go.Proofs.YtmedlhoahddbmaaW.PrintLast Go.Proofs.YtmedlhoahddbmaaW.PrintMore
set_option linter.unusedVariables false
set_option linter.unusedSimpArgs false

theorem in_f (a b c : Int) : impl_in.f a b c = some (decide (b ≤ a ∧ a ≤ c)) := by
  unfold impl_in.f
  by_cases h : a ≥ b
  · rw [if_pos h]; congr 1; apply decide_eq_decide.2; omega
  · rw [if_neg h]; congr 1; symm; rw [decide_eq_false_iff_not]; omega

end Go.Proofs.Ytmedlhoahddbmaa.P

-- spec.l6In: a number in a range.
namespace Go.Proofs.Ytmedlhoahddbmaa.P
open Go.RowKit Go.Proofs.YtmedlhoahddbmaaW.PrintWords Go.Proofs.YtmedlhoahddbmaaW.PrintLast Go.Proofs.YtmedlhoahddbmaaW.PrintMore
set_option linter.unusedVariables false
set_option linter.unusedSimpArgs false

theorem l6in_f (a b c : Int) : spec_l6In.f a b c = some (decide (b ≤ a ∧ a ≤ c)) := by
  unfold spec_l6In.f
  by_cases h : a ≥ b
  · rw [if_pos h]; congr 1; apply decide_eq_decide.2; omega
  · rw [if_neg h]; congr 1; symm; rw [decide_eq_false_iff_not]; omega

end Go.Proofs.Ytmedlhoahddbmaa.P

-- spec.l1Less comes to the tidy form.
namespace Go.Proofs.Ytmedlhoahddbmaa.P
open Go.RowKit Go.Proofs.YtmedlhoahddbmaaW.PrintWords Go.Proofs.YtmedlhoahddbmaaW.PrintLast Go.Proofs.YtmedlhoahddbmaaW.PrintMore
set_option linter.unusedVariables false
set_option linter.unusedSimpArgs false
/-- The search for a lesser ring: from divisor d on, and place i. -/
theorem less_l1 (t r : List Bool) (R : List Bool × List Bool) (hr : r.length ≤ 70368744177664) (d : Nat) (hd : 0 < d) (hdl : d < r.length)
    (hno : ¬ IsPer r d → Ev (fun k => spec_l1Less.l0 k r.length ((d + 1 : Nat) : Int) t r) R)
    (hyes : IsPer r d → Ev (fun k => spec_l1Less.f k t (r.take d)) R) :
    ∀ (m i : Nat), d ≤ i → i ≤ r.length → r.length - i = m → ∀ b : Bool, (b = true ↔ r.length % d = 0 ∧ ∀ j, d ≤ j → j < i → r.getD j false = r.getD (j - d) false) →
      Ev (fun k => spec_l1Less.l1 k r.length d b i t r) R := by
  have hw : wrap64 ((d : Int) + 1) = ((d + 1 : Nat) : Int) := by rw [w64 (by omega) (by omega)]; omega
  intro m
  induction m with
  | zero =>
    intro i h1 h2 h3 b hb
    have e : i = r.length := by omega
    subst e
    cases b with
    | true =>
      refine Ev.step (f := fun k => (spec_l1Less.f k t (r.take d)).bind fun bt273 => (some (bt273.1, bt273.2))) (fun k => ?_) (Ev.bind (hyes ?_) (Ev.now _))
      · simp only [spec_l1Less.l1]; rw [if_neg (by omega), if_pos trivial, if_pos (by omega), if_pos (by omega)]; rfl
      · exact ⟨(hb.1 rfl).1, (hb.1 rfl).2⟩
    | false =>
      refine Ev.step (f := fun k => spec_l1Less.l0 k r.length ((d + 1 : Nat) : Int) t r) (fun k => ?_) (hno ?_)
      · simp only [spec_l1Less.l1]; rw [if_neg (by omega), if_neg (by decide), hw]
      · intro hp; exact absurd (hb.2 ⟨hp.1, hp.2⟩) (by decide)
  | succ m ih =>
    intro i h1 h2 h3 b hb
    cases b with
    | true =>
      have hi : wrap64 ((i : Int) + 1) = ((i + 1 : Nat) : Int) := by rw [w64 (by omega) (by omega)]; omega
      have hs : wrap64 ((i : Int) - (d : Int)) = ((i - d : Nat) : Int) := by rw [w64 (by omega) (by omega)]; omega
      refine Ev.step (f := fun k => spec_l1Less.l1 k r.length d (r.getD i false == r.getD (i - d) false) ((i + 1 : Nat) : Int) t r) (fun k => ?_) (ih (i + 1) (by omega) (by omega) (by omega) _ ?_)
      · simp only [spec_l1Less.l1]
        rw [if_pos (by omega), if_pos trivial, if_pos (by omega), if_pos (by omega), hs, if_pos (by omega), if_pos (by omega), hi, rdOf_nat, rdOf_nat]
      · have hb' := hb.1 rfl
        rw [beq_iff_eq]
        constructor
        · intro he
          refine ⟨hb'.1, fun j hj hj2 => ?_⟩
          rcases Nat.lt_or_ge j i with hlt | hge
          · exact hb'.2 j hj hlt
          · have : j = i := by omega
            subst this; exact he
        · intro hh; exact hh.2 i h1 (by omega)
    | false =>
      refine Ev.step (f := fun k => spec_l1Less.l0 k r.length ((d + 1 : Nat) : Int) t r) (fun k => ?_) (hno ?_)
      · simp only [spec_l1Less.l1]; rw [if_pos (by omega), if_neg (by decide), hw]
      · intro hp; exact absurd (hb.2 ⟨hp.1, fun j hj hj2 => hp.2 j hj (by omega)⟩) (by decide)

theorem less_f : ∀ (n : Nat) (t r : List Bool), t.length + r.length = n → r ≠ [] → n ≤ 70368744177664 → ∃ t' r', Ev (fun k => spec_l1Less.f k t r) (t', r') ∧ Tidy t r t' r' := by
  intro n
  induction n using Nat.strongRecOn with
  | _ n ih =>
    intro t r hn hr hl
    have hpos := List.length_pos_iff.2 hr
    -- at the search's end
    have hend : (∀ d, 0 < d → d < r.length → ¬ IsPer r d) → ∃ t' r', Ev (fun k => spec_l1Less.l0 k r.length (r.length : Int) t r) (t', r') ∧ Tidy t r t' r' := by
      intro hno
      have hprim := prim_of hr hno
      by_cases ht : t = []
      · subst ht
        refine ⟨[], r, Ev.step (f := fun k => some (([] : List Bool), r)) (fun k => ?_) (Ev.now _), ⟨hprim, .inl rfl⟩, fun _ => rfl, Nat.le_refl _, Nat.le_refl _⟩
        simp only [spec_l1Less.l0]; rw [if_neg (by omega), if_neg (by simp)]
      · have htp := List.length_pos_iff.2 ht
        have w1 : wrap64 ((t.length : Int) - 1) = ((t.length - 1 : Nat) : Int) := by rw [w64 (by omega) (by omega)]; omega
        have w2 : wrap64 ((r.length : Int) - 1) = ((r.length - 1 : Nat) : Int) := by rw [w64 (by omega) (by omega)]; omega
        by_cases he : t.getD (t.length - 1) false = r.getD (r.length - 1) false
        · obtain ⟨t', r', hev, htd⟩ := ih _ (by have := rotR_length hr; rw [this, List.length_take]; omega) (t.take (t.length - 1)) (rotR r) rfl (by simp [rotR]) (by rw [rotR_length hr, List.length_take]; omega)
          refine ⟨t', r', Ev.step (f := fun k => (spec_l1Less.f k (t.take (t.length - 1)) (rotR r)).bind fun bt260 => (some (bt260.1, bt260.2))) (fun k => ?_) (Ev.bind hev (Ev.now _)), htd.canon, fun x => by rw [htd.has, rot_has ht hr he], by have := htd.tl; rw [List.length_take] at this; omega, by have := htd.rl; rw [rotR_length hr] at this; omega⟩
          simp only [spec_l1Less.l0]
          rw [if_neg (by omega), if_pos (by omega), w1, w2, if_pos (by omega), if_pos (by omega), if_pos (by omega), if_pos (by omega), rdOf_nat, rdOf_nat, if_pos (by rw [he]; exact beq_self_eq_true _)]
          simp only [Option.bind_some]
          rw [if_pos (by omega)]
          simp only [Int.toNat_natCast]
          rw [if_pos (by simp; omega), if_pos (by omega)]
          rfl
        · refine ⟨t, r, Ev.step (f := fun k => some (t, r)) (fun k => ?_) (Ev.now _), ⟨hprim, .inr he⟩, fun _ => rfl, Nat.le_refl _, Nat.le_refl _⟩
          simp only [spec_l1Less.l0]
          rw [if_neg (by omega), if_pos (by omega), w1, w2, if_pos (by omega), if_pos (by omega), if_pos (by omega), if_pos (by omega), rdOf_nat, rdOf_nat, if_neg (by rw [beq_iff_eq]; exact he)]
    -- the search
    have hsearch : ∀ (m d : Nat), 0 < d → d ≤ r.length → r.length - d = m → (∀ d', 0 < d' → d' < d → ¬ IsPer r d') → ∃ t' r', Ev (fun k => spec_l1Less.l0 k r.length (d : Int) t r) (t', r') ∧ Tidy t r t' r' := by
      intro m
      induction m with
      | zero =>
        intro d h0 h1 h2 h3
        have e : d = r.length := by omega
        subst e
        exact hend h3
      | succ m ihm =>
        intro d h0 h1 h2 h3
        have hmod : Int.tmod (r.length : Int) (d : Int) = ((r.length % d : Nat) : Int) := by rw [Int.tmod_eq_emod_of_nonneg (by omega)]; rfl
        have step : ∀ R, Ev (fun k => spec_l1Less.l1 k r.length d ((Int.tmod (r.length : Int) (d : Int)) == 0) d t r) R → Ev (fun k => spec_l1Less.l0 k r.length (d : Int) t r) R := fun R h => by
          refine Ev.step (fun k => ?_) h
          simp only [spec_l1Less.l0]; rw [if_pos (by omega), if_neg (by omega)]
        have hb : ((Int.tmod (r.length : Int) (d : Int)) == 0) = true ↔ r.length % d = 0 ∧ ∀ j, d ≤ j → j < d → r.getD j false = r.getD (j - d) false := by
          rw [hmod, beq_iff_eq]
          constructor
          · intro h; exact ⟨by omega, fun j a b => by omega⟩
          · rintro ⟨h, _⟩; rw [h]; rfl
        by_cases hp : IsPer r d
        · have hlt : (r.take d).length = d := by rw [List.length_take]; omega
          obtain ⟨t', r', hev, htd⟩ := ih (t.length + (r.take d).length) (by omega) t (r.take d) rfl (by intro e; rw [e] at hlt; simp at hlt; omega) (by omega)
          refine ⟨t', r', step _ (less_l1 t r _ (by omega) d h0 (by omega) (fun h => absurd hp h) (fun _ => hev) _ d (Nat.le_refl _) (by omega) rfl _ hb), htd.canon, fun x => by rw [htd.has, take_has hp h0 h1], htd.tl, by have := htd.rl; omega⟩
        · obtain ⟨t', r', hev, htd⟩ := ihm (d + 1) (by omega) (by omega) (by omega) (fun d' a b => by
            rcases Nat.lt_or_ge d' d with h | h
            · exact h3 d' a h
            · have : d' = d := by omega
              subst this; exact hp)
          exact ⟨t', r', step _ (less_l1 t r _ (by omega) d h0 (by omega) (fun _ => hev) (fun h => absurd h hp) _ d (Nat.le_refl _) (by omega) rfl _ hb), htd⟩
    obtain ⟨t', r', hev, htd⟩ := hsearch (r.length - 1) 1 (by omega) (by omega) rfl (fun d' a b => by omega)
    exact ⟨t', r', Ev.step (fun k => by simp only [spec_l1Less.f]; rfl) hev, htd⟩

theorem less_cn (t r : List Bool) (hr : r ≠ []) (hl : t.length + r.length ≤ 70368744177664) : Ev (fun k => spec_l1Less.f k t r) (cn (hasB t r)) := by
  obtain ⟨t', r', h, ht⟩ := less_f _ t r rfl hr hl
  rw [ht.cn]; exact h

end Go.Proofs.Ytmedlhoahddbmaa.P

-- spec.l6Open and pick: whatever is drawn lies in its range.
namespace Go.Proofs.Ytmedlhoahddbmaa.P
open Go.RowKit Go.Proofs.YtmedlhoahddbmaaW.PrintWords Go.Proofs.YtmedlhoahddbmaaW.PrintLast Go.Proofs.YtmedlhoahddbmaaW.PrintMore
set_option linter.unusedVariables false
set_option linter.unusedSimpArgs false

theorem bits_xor_nat (a b : Nat) (ha : a < 2 ^ 62) (hb : b < 2 ^ 62) : Go.bits .xor .i64 (a : Int) (b : Int) = ((a ^^^ b : Nat) : Int) := by
  have ha' : a % 2 ^ IntKind.i64.bits = a := Nat.mod_eq_of_lt (by show a < 2 ^ 64; omega)
  have hb' : b % 2 ^ IntKind.i64.bits = b := Nat.mod_eq_of_lt (by show b < 2 ^ 64; omega)
  have hx := Nat.xor_lt_two_pow ha hb
  simp only [Go.bits, BitVec.ofInt_natCast, BitVec.toNat_xor, BitVec.toNat_ofNat, ha', hb']
  rw [IntKind.wrap_i64]
  omega
theorem open_f (l : List Int) : spec_l6Open.f l = some (l.take 2000, 0) := by
  unfold spec_l6Open.f
  by_cases h : (l.length : Int) > 2000
  · rw [if_pos h, if_pos (by omega)]
  · rw [if_neg h, List.take_of_length_le (by omega)]
/-- The code of a draw: bytes, not too many. -/
structure Code (b : List Int) : Prop where
  byte : ∀ x ∈ b, 0 ≤ x ∧ x ≤ 255
  len : b.length ≤ 2000
theorem code_of {l : List Int} (h : ∀ x ∈ l, (Lit.int .u8 x).wf = true) : Code (l.take 2000) := by
  refine ⟨fun x hx => ?_, by rw [List.length_take]; omega⟩
  have := h x (List.mem_of_mem_take hx)
  have h0 : IntKind.u8.min = 0 := rfl
  have h1 : IntKind.u8.max = 255 := rfl
  simp [Lit.wf, h0, h1] at this
  omega
theorem Code.rd {b : List Int} (h : Code b) {i : Nat} (hi : i < b.length) : 0 ≤ Go.Proofs.YtmedlhoahddbmaaW.PrintWords.rd b (i : Int) ∧ Go.Proofs.YtmedlhoahddbmaaW.PrintWords.rd b (i : Int) ≤ 255 := by
  have e : Go.Proofs.YtmedlhoahddbmaaW.PrintWords.rd b (i : Int) = b[i] := by simp [Go.Proofs.YtmedlhoahddbmaaW.PrintWords.rd, List.getD_eq_getElem?_getD, hi]
  rw [e]; exact h.byte _ (List.getElem_mem hi)
theorem pick_f {b : List Int} (h : Code b) (p n : Nat) (hp : p ≤ 1000000) (hn : 1 ≤ n) (hn2 : n ≤ 1000000) : ∃ v : Nat, v < n ∧ Ev (fun k => spec_l6Rd_pick.f k b p n) ((v : Int), ((p + 1 : Nat) : Int)) := by
  have w1 : wrap64 ((p : Int) + 1) = ((p + 1 : Nat) : Int) := by rw [w64 (by omega) (by omega)]; omega
  have w2 : wrap64 (((p + 1 : Nat) : Int) - 1) = (p : Int) := by rw [w64 (by omega) (by omega)]; omega
  have hlen := h.len
  by_cases h0 : b.length = 0
  · refine ⟨0, by omega, ?_⟩
    have e : ((b.length : Int) == 0) = true := by rw [beq_iff_eq]; omega
    refine Ev.congr (f := fun k => spec_l6Rd_pick.j0 k n true b ((p + 1 : Nat) : Int)) (fun k => ?_) (Ev.step (f := fun k => some (0, ((p + 1 : Nat) : Int))) (fun k => ?_) (Ev.now _))
    · unfold spec_l6Rd_pick.f; rw [if_neg (by omega), e, w1]
    · simp only [spec_l6Rd_pick.j0]; rw [if_pos trivial]
  · have e : ((b.length : Int) == 0) = false := by rw [beq_eq_false_iff_ne]; omega
    have st : ∀ k, spec_l6Rd_pick.f k b p n = spec_l6Rd_pick.j0 k n false b ((p + 1 : Nat) : Int) := fun k => by
      unfold spec_l6Rd_pick.f; rw [if_neg (by omega), e, w1]
    by_cases hlt : p < b.length
    · obtain ⟨v, hv⟩ := Int.eq_ofNat_of_zero_le (h.rd hlt).1
      have hv2 := (h.rd hlt).2
      rw [hv] at hv2
      refine ⟨v % n, Nat.mod_lt _ (by omega), Ev.congr st (Ev.step (f := fun k => some (((v % n : Nat) : Int), ((p + 1 : Nat) : Int))) (fun k => ?_) (Ev.now _))⟩
      simp only [spec_l6Rd_pick.j0]
      rw [if_neg (by decide), w2, if_pos (by omega), if_pos (by omega), if_neg (by omega), hv, w64 (by omega) (by omega), Int.tmod_eq_emod_of_nonneg (by omega)]
      rfl
    · have hpos : 0 < b.length := by omega
      have m1 : Int.tmod (p : Int) (b.length : Int) = ((p % b.length : Nat) : Int) := by rw [Int.tmod_eq_emod_of_nonneg (by omega)]; rfl
      have w3 : wrap64 ((p : Int) * 7) = ((p * 7 : Nat) : Int) := by rw [w64 (by omega) (by omega)]; omega
      have w4 : wrap64 (((p * 7 : Nat) : Int) + 3) = ((p * 7 + 3 : Nat) : Int) := by rw [w64 (by omega) (by omega)]; omega
      have m2 : Int.tmod ((p * 7 + 3 : Nat) : Int) (b.length : Int) = (((p * 7 + 3) % b.length : Nat) : Int) := by rw [Int.tmod_eq_emod_of_nonneg (by omega)]; rfl
      have l1 := Nat.mod_lt p hpos
      have l2 := Nat.mod_lt (p * 7 + 3) hpos
      obtain ⟨v1, hv1⟩ := Int.eq_ofNat_of_zero_le (h.rd l1).1
      obtain ⟨v2, hv2⟩ := Int.eq_ofNat_of_zero_le (h.rd l2).1
      have u1 := (h.rd l1).2
      have u2 := (h.rd l2).2
      rw [hv1] at u1
      rw [hv2] at u2
      have q1 : Int.tdiv (p : Int) (b.length : Int) = ((p / b.length : Nat) : Int) := by rw [Int.tdiv_eq_ediv_of_nonneg (by omega)]; rfl
      have q1l : p / b.length ≤ p := Nat.div_le_self _ _
      generalize p / b.length = qq at q1 q1l
      have s1 : wrap64 (wrap64 (v1 : Int) * 131) = ((v1 * 131 : Nat) : Int) := by rw [w64 (x := (v1 : Int)) (by omega) (by omega), w64 (by omega) (by omega)]; omega
      have s2 : wrap64 (wrap64 (v2 : Int) * 1117) = ((v2 * 1117 : Nat) : Int) := by rw [w64 (x := (v2 : Int)) (by omega) (by omega), w64 (by omega) (by omega)]; omega
      have s3 : wrap64 ((p : Int) * 29) = ((p * 29 : Nat) : Int) := by rw [w64 (by omega) (by omega)]; omega
      have s4 : wrap64 (wrap64 ((qq : Nat) : Int) * 53) = ((qq * 53 : Nat) : Int) := by rw [w64 (x := ((qq : Nat) : Int)) (by omega) (by omega), w64 (by omega) (by omega)]; omega
      have s5 : wrap64 (wrap64 (wrap64 (((v1 * 131 : Nat) : Int) + ((v2 * 1117 : Nat) : Int)) + ((p * 29 : Nat) : Int)) + ((qq * 53 : Nat) : Int)) = ((v1 * 131 + v2 * 1117 + p * 29 + qq * 53 : Nat) : Int) := by
        rw [w64 (x := ((v1 * 131 : Nat) : Int) + ((v2 * 1117 : Nat) : Int)) (by omega) (by omega), w64 (x := ((v1 * 131 : Nat) : Int) + ((v2 * 1117 : Nat) : Int) + ((p * 29 : Nat) : Int)) (by omega) (by omega), w64 (by omega) (by omega)]; omega
      generalize hX : v1 * 131 + v2 * 1117 + p * 29 + qq * 53 = X at s5
      have hXl : X < 100000000 := by omega
      have s6 : wrap64 (Int.tdiv (X : Int) 64) = ((X / 64 : Nat) : Int) := by
        rw [Int.tdiv_eq_ediv_of_nonneg (by omega), w64 (by omega) (by omega)]; omega
      have hx := bits_xor_nat X (X / 64) (by omega) (by omega)
      refine ⟨(X ^^^ X / 64) % n, Nat.mod_lt _ (by omega), Ev.congr st (Ev.step (f := fun k => some ((((X ^^^ X / 64) % n : Nat) : Int), ((p + 1 : Nat) : Int))) (fun k => ?_) (Ev.now _))⟩
      simp only [spec_l6Rd_pick.j0]
      rw [if_neg (by decide), w2, if_neg (by omega), if_neg (by omega), m1, w3, w4, m2, if_pos (by omega), if_pos (by omega), if_pos (by omega), if_pos (by omega), if_neg (by omega), hv1, hv2, q1, s1, s2, s3, s4, s5, s6, hx, Int.tmod_eq_emod_of_nonneg (by omega)]
      rfl

end Go.Proofs.Ytmedlhoahddbmaa.P

-- impl.setOf reads what parse tells.
namespace Go.Proofs.Ytmedlhoahddbmaa.P
open Go.RowKit Go.Proofs.YtmedlhoahddbmaaW.PrintWords Go.Proofs.YtmedlhoahddbmaaW.PrintLast Go.Proofs.YtmedlhoahddbmaaW.PrintMore
set_option linter.unusedVariables false
set_option linter.unusedSimpArgs false
theorem index1_f (s : ByteArray) (c : UInt8) : stringslite_Index.f s ⟨#[c]⟩ = some (if (chrs s).findIdx (· == c) < s.size then (((chrs s).findIdx (· == c) : Nat) : Int) else -1) := by
  unfold stringslite_Index.f; rw [if_pos (show (⟨#[c]⟩ : ByteArray).size = 1 from rfl)]; rfl
theorem cut_f (s : ByteArray) (c : UInt8) (hs : s.size ≤ 70368744177664) : strings_Cut.f s ⟨#[c]⟩ = some (if (chrs s).findIdx (· == c) < s.size then (s.extract 0 ((chrs s).findIdx (· == c)), s.extract ((chrs s).findIdx (· == c) + 1) s.size, true) else (s, ⟨#[]⟩, false)) := by
  unfold strings_Cut.f stringslite_Cut.f
  rw [index1_f]
  simp only [Option.bind_some]
  generalize (chrs s).findIdx (· == c) = p
  by_cases h : p < s.size
  · rw [if_pos h]
    have hw : wrap64 ((p : Int) + ((⟨#[c]⟩ : ByteArray).size : Int)) = ((p + 1 : Nat) : Int) := by
      have : (⟨#[c]⟩ : ByteArray).size = 1 := rfl
      rw [this, w64 (by omega) (by omega)]; omega
    rw [if_pos (by omega), if_pos (by omega), if_pos (by omega), hw, if_pos (by omega), if_pos (by omega), if_pos h]
    simp only [Int.toNat_natCast, Option.bind_some]
  · rw [if_neg h, if_neg (by omega), if_neg h]; rfl
theorem suffix_f (s : ByteArray) (c : UInt8) (hs : s.size ≤ 70368744177664) : strings_CutSuffix.f s ⟨#[c]⟩ = some (if (chrs s)[s.size - 1]? = some c then (s.extract 0 (s.size - 1), true) else (s, false)) := by
  unfold strings_CutSuffix.f stringslite_CutSuffix.f stringslite_HasSuffix.f
  have h1 : (⟨#[c]⟩ : ByteArray).size = 1 := rfl
  rw [h1]
  by_cases h : s.size = 0
  · rw [if_neg (by omega)]
    have : chrs s = [] := List.eq_nil_of_length_eq_zero (by rw [chrs_length]; exact h)
    simp [this]
  · have hw : wrap64 ((s.size : Int) - ((1 : Nat) : Int)) = ((s.size - 1 : Nat) : Int) := by rw [w64 (by omega) (by omega)]; omega
    rw [if_pos (by omega), hw, if_pos (by omega), if_pos (by omega)]
    simp only [Option.bind_some, Int.toNat_natCast]
    have e : (((s.extract (s.size - 1) s.size).toList == (⟨#[c]⟩ : ByteArray).toList) = true) ↔ (chrs s)[s.size - 1]? = some c := by
      rw [beq_iff_eq, ByteArray.toList_eq, ByteArray.toList_eq]
      show chrs _ = [c] ↔ _
      rw [chrs_extract, List.take_of_length_le (by rw [chrs_length]; omega)]
      have hl : s.size - 1 < (chrs s).length := by rw [chrs_length]; omega
      rw [List.drop_eq_getElem_cons hl, List.drop_of_length_le (by rw [chrs_length]; omega), List.getElem?_eq_getElem hl]
      simp
    by_cases hc : (chrs s)[s.size - 1]? = some c
    · rw [if_pos (e.2 hc), if_pos (by omega), if_pos (by omega), if_pos hc]; rfl
    · rw [if_neg (fun h => hc (e.1 h)), if_neg hc]; rfl

theorem isigns_ev (s : ByteArray) (hs : s.size ≤ 70368744177664) : ∀ (d : Nat) (i : Nat) (acc : List Bool), i ≤ s.size → s.size - i = d → acc.length ≤ i →
    Ev (fun k => impl_signs.l0 k acc (bytesOf s) ((bytesOf s).length : Int) i) (match bitsL ((chrs s).drop i) with | some l => (acc ++ l, decide ((acc ++ l).length ≤ 60)) | none => ([], false)) := by
  intro d
  induction d with
  | zero =>
    intro i acc hi hd ha
    refine Ev.step (f := fun k => some (acc, decide ((acc.length : Int) ≤ 60))) (fun k => ?_) ?_
    · simp only [impl_signs.l0, bytesOf_length]; rw [if_neg (by omega)]
    · have : (chrs s).drop i = [] := by rw [List.drop_eq_nil_iff, chrs_length]; omega
      rw [this]; simp only [bitsL, List.append_nil]
      have e : decide ((acc.length : Int) ≤ 60) = decide (acc.length ≤ 60) := by apply decide_eq_decide.2; omega
      rw [e]; exact Ev.now _
  | succ d ih =>
    intro i acc hi hd ha
    have hlt : i < s.size := by omega
    have hl : i < (chrs s).length := by rw [chrs_length]; exact hlt
    have hdrop : (chrs s).drop i = (chrs s)[i] :: (chrs s).drop (i + 1) := List.drop_eq_getElem_cons hl
    have hw : wrap64 ((i : Int) + 1) = ((i + 1 : Nat) : Int) := by rw [w64 (by omega) (by omega)]; omega
    have hb := bt_chr s hlt
    rw [hdrop]
    by_cases c0 : (chrs s)[i] = 48
    · have e : bt s (i : Int) = 48 := by rw [hb, c0]; rfl
      refine Ev.step (f := fun k => impl_signs.l0 k (acc ++ [false]) (bytesOf s) ((bytesOf s).length : Int) ((i + 1 : Nat) : Int)) (fun k => ?_) ?_
      · simp only [impl_signs.l0, bytesOf_length, rd_bytesOf]; rw [if_pos (by omega), if_pos (by omega), if_pos (by omega), if_pos e, if_pos (by omega), hw, e]; rfl
      · have := ih (i + 1) (acc ++ [false]) (by omega) (by omega) (by simp; omega)
        simp only [bitsL, if_pos c0]
        cases h : bitsL ((chrs s).drop (i + 1)) with
        | none => rw [h] at this; exact this
        | some l => rw [h] at this; simpa using this
    · by_cases c1 : (chrs s)[i] = 49
      · have e : bt s (i : Int) = 49 := by rw [hb, c1]; rfl
        refine Ev.step (f := fun k => impl_signs.l0 k (acc ++ [true]) (bytesOf s) ((bytesOf s).length : Int) ((i + 1 : Nat) : Int)) (fun k => ?_) ?_
        · simp only [impl_signs.l0, bytesOf_length, rd_bytesOf]; rw [if_pos (by omega), if_pos (by omega), if_pos (by omega), if_neg (by omega), if_pos e, if_pos (by omega), hw]
        · have := ih (i + 1) (acc ++ [true]) (by omega) (by omega) (by simp; omega)
          simp only [bitsL, if_neg c0, if_pos c1]
          cases h : bitsL ((chrs s).drop (i + 1)) with
          | none => rw [h] at this; exact this
          | some l => rw [h] at this; simpa using this
      · refine Ev.step (f := fun k => some (([] : List Bool), false)) (fun k => ?_) ?_
        · have e0 : ¬ bt s (i : Int) = 48 := by rw [hb]; intro h; exact c0 ((u8_eq (n := 48) (by omega)).1 h)
          have e1 : ¬ bt s (i : Int) = 49 := by rw [hb]; intro h; exact c1 ((u8_eq (n := 49) (by omega)).1 h)
          simp only [impl_signs.l0, bytesOf_length, rd_bytesOf]; rw [if_pos (by omega), if_pos (by omega), if_pos (by omega), if_neg e0, if_neg e1]
        · simp only [bitsL, if_neg c0, if_neg c1]; exact Ev.now _

/-- What impl.signs answers. -/
def sgns (s : List UInt8) : List Bool × Bool := match bitsL s with | some l => (l, decide (l.length ≤ 60)) | none => ([], false)
theorem isigns_f (s : ByteArray) (hs : s.size ≤ 70368744177664) : Ev (fun k => impl_signs.f k s) (sgns (chrs s)) := by
  have := isigns_ev s hs s.size 0 [] (by omega) (by omega) (by simp)
  unfold sgns
  refine Ev.congr (fun k => ?_) (by simpa using this)
  unfold impl_signs.f bytesConv.f; rw [if_pos hs]; simp only [Option.bind_some, bytesOf_length]

/-- What impl.setOf answers, out of its parts. -/
def setFin (o e : Bool) (X Y : List Bool × Bool) : List Bool × List Bool × Bool := (X.1, Y.1, o && e && X.2 && Y.2 && decide (0 < Y.1.length))
theorem setOf_ev (s A R B : ByteArray) (o e : Bool) (h1 : strings_Cut.f s ⟨#[40]⟩ = some (A, R, o)) (h2 : strings_CutSuffix.f R ⟨#[41]⟩ = some (B, e)) (hA : A.size ≤ 70368744177664) (hB : B.size ≤ 70368744177664) :
    Ev (fun k => impl_setOf.f k s) (setFin o e (sgns (chrs A)) (sgns (chrs B))) := by
  refine Ev.congr (f := fun k => (impl_signs.f k A).bind fun X => (impl_signs.f k B).bind fun Y => some (setFin o e X Y)) (fun k => ?_) (Ev.bind (isigns_f A hA) (Ev.bind (isigns_f B hB) (Ev.now _)))
  unfold impl_setOf.f
  rw [h1]
  simp only [Option.bind_some]
  rw [h2]
  simp only [Option.bind_some]
  congr 1; funext X; congr 1; funext Y
  unfold setFin
  have ed : decide ((Y.1.length : Int) > 0) = decide (0 < Y.1.length) := by apply decide_eq_decide.2; omega
  rw [ed]
  cases o <;> cases e <;> rcases X with ⟨x, _ | _⟩ <;> rcases Y with ⟨y, _ | _⟩ <;> simp

theorem setOf_f (s : ByteArray) (hs : s.size ≤ 70368744177664) : ∃ x y, Ev (fun k => impl_setOf.f k s) (x, y, (parse (chrs s)).isSome) ∧ ∀ a b, parse (chrs s) = some (a, b) → x = a ∧ y = b := by
  have hp := (chrs s).findIdx_le_length (p := (· == 40))
  rw [chrs_length] at hp
  have h1 := cut_f s 40 hs
  -- out of the parts
  have fin : ∀ A R B o e, strings_Cut.f s ⟨#[40]⟩ = some (A, R, o) → strings_CutSuffix.f R ⟨#[41]⟩ = some (B, e) → A.size ≤ s.size → B.size ≤ s.size → (setFin o e (sgns (chrs A)) (sgns (chrs B))).2.2 = (parse (chrs s)).isSome → (∀ a b, parse (chrs s) = some (a, b) → (sgns (chrs A)).1 = a ∧ (sgns (chrs B)).1 = b) →
      ∃ x y, Ev (fun k => impl_setOf.f k s) (x, y, (parse (chrs s)).isSome) ∧ ∀ a b, parse (chrs s) = some (a, b) → x = a ∧ y = b := fun A R B o e g1 g2 g3 g4 g5 g6 => by
    have := setOf_ev s A R B o e g1 g2 (by omega) (by omega)
    refine ⟨(sgns (chrs A)).1, (sgns (chrs B)).1, ?_, g6⟩
    rw [← g5]; exact this
  by_cases h : (chrs s).findIdx (· == 40) < s.size
  · rw [if_pos h] at h1
    have hsz : (s.extract ((chrs s).findIdx (· == 40) + 1) s.size).size = s.size - ((chrs s).findIdx (· == 40) + 1) := by simp
    have h2 := suffix_f (s.extract ((chrs s).findIdx (· == 40) + 1) s.size) 41 (by omega)
    have he : (chrs (s.extract ((chrs s).findIdx (· == 40) + 1) s.size))[(s.extract ((chrs s).findIdx (· == 40) + 1) s.size).size - 1]? = if (chrs s).findIdx (· == 40) + 1 < s.size then (chrs s)[s.size - 1]? else none := by
      rw [chrs_extract, List.take_of_length_le (by rw [chrs_length]; omega), hsz, List.getElem?_drop]
      split
      · congr 1; omega
      · exact List.getElem?_eq_none (by rw [chrs_length]; omega)
    rw [he] at h2
    have hP : parse (chrs s) = if (chrs s).findIdx (· == 40) + 2 < s.size ∧ (chrs s)[s.size - 1]? = some 41 then
        match bitsL ((chrs s).take ((chrs s).findIdx (· == 40))), bitsL (((chrs s).take (s.size - 1)).drop ((chrs s).findIdx (· == 40) + 1)) with
        | some a, some b => if a.length ≤ 60 ∧ b.length ≤ 60 then some (a, b) else none
        | _, _ => none else none := by unfold parse; rw [chrs_length] <;> rfl
    have hc1 : chrs (s.extract 0 ((chrs s).findIdx (· == 40))) = (chrs s).take ((chrs s).findIdx (· == 40)) := by rw [chrs_extract, List.drop_zero]
    have hA : (s.extract 0 ((chrs s).findIdx (· == 40))).size ≤ s.size := by simp; omega
    generalize hq : (chrs s).findIdx (· == 40) = p at *
    by_cases h3 : (if p + 1 < s.size then (chrs s)[s.size - 1]? else none) = some 41
    · rw [if_pos h3] at h2
      have h4 : p + 1 < s.size := by
        refine Classical.byContradiction fun hn => ?_
        rw [if_neg hn] at h3; cases h3
      rw [if_pos h4] at h3
      have hc2 : chrs ((s.extract (p + 1) s.size).extract 0 ((s.extract (p + 1) s.size).size - 1)) = ((chrs s).take (s.size - 1)).drop (p + 1) := by
        rw [chrs_extract, chrs_extract, List.drop_zero, show (chrs s).take s.size = chrs s from List.take_of_length_le (by rw [chrs_length]; omega), hsz, List.drop_take]
        congr 1; omega
      have hl2 : (((chrs s).take (s.size - 1)).drop (p + 1)).length = s.size - 1 - (p + 1) := by rw [List.length_drop, List.length_take, chrs_length]; omega
      have hP2 : parse (chrs s) = match bitsL ((chrs s).take p), bitsL (((chrs s).take (s.size - 1)).drop (p + 1)) with
          | some a, some b => if p + 2 < s.size ∧ (a.length ≤ 60 ∧ b.length ≤ 60) then some (a, b) else none
          | _, _ => none := by
        rw [hP]
        by_cases h5 : p + 2 < s.size
        · rw [if_pos ⟨h5, h3⟩]
          split <;> simp_all
        · rw [if_neg (by rintro ⟨x, _⟩; exact h5 x)]
          split
          · rw [if_neg (by rintro ⟨x, _⟩; exact h5 x)]
          · rfl
      refine fin _ _ _ _ _ h1 h2 hA (by simp; omega) ?_ ?_
      · rw [hc1, hc2, hP2]
        unfold setFin sgns
        cases b1 : bitsL ((chrs s).take p) with
        | none => simp
        | some a =>
          cases b2 : bitsL (((chrs s).take (s.size - 1)).drop (p + 1)) with
          | none => simp
          | some b =>
            have hbl := bitsL_length b2
            rw [hl2] at hbl
            have hb0 : decide (0 < b.length) = decide (p + 2 < s.size) := by apply decide_eq_decide.2; omega
            simp only [hb0]
            by_cases la : a.length ≤ 60 <;> by_cases lb : b.length ≤ 60 <;> by_cases h5 : p + 2 < s.size <;> simp [la, lb, h5]
      · rw [hc1, hc2, hP2]
        unfold sgns
        intro a' b' hab
        cases b1 : bitsL ((chrs s).take p) with
        | none => rw [b1] at hab; cases hab
        | some a =>
          cases b2 : bitsL (((chrs s).take (s.size - 1)).drop (p + 1)) with
          | none => rw [b1, b2] at hab; cases hab
          | some b =>
            rw [b1, b2] at hab
            simp only at hab
            split at hab
            · simp only [Option.some.injEq, Prod.mk.injEq] at hab; exact hab
            · cases hab
    · rw [if_neg h3] at h2
      have hPn : parse (chrs s) = none := by
        rw [hP, if_neg]
        rintro ⟨x, y⟩
        exact h3 (by rw [if_pos (by omega)]; exact y)
      refine fin _ _ _ _ _ h1 h2 hA (by simp) ?_ ?_
      · rw [hPn]; simp [setFin]
      · intro a b hab; rw [hPn] at hab; cases hab
  · rw [if_neg h] at h1
    have hPn : parse (chrs s) = none := by
      unfold parse; rw [chrs_length, if_neg]; rintro ⟨x, _⟩; omega
    have h2 := suffix_f (⟨#[]⟩ : ByteArray) 41 (by decide)
    rw [if_neg (by rw [byteArray_empty_chrs]; simp)] at h2
    refine fin _ _ _ _ _ h1 h2 (Nat.le_refl _) (by show 0 ≤ _; omega) ?_ ?_
    · rw [hPn]; simp [setFin]
    · intro a b hab; rw [hPn] at hab; cases hab

end Go.Proofs.Ytmedlhoahddbmaa.P

-- impl.SetEnds asks the ring.
namespace Go.Proofs.Ytmedlhoahddbmaa.P
open Go.RowKit Go.Proofs.YtmedlhoahddbmaaW.PrintWords Go.Proofs.YtmedlhoahddbmaaW.PrintLast Go.Proofs.YtmedlhoahddbmaaW.PrintMore
set_option linter.unusedVariables false
set_option linter.unusedSimpArgs false

theorem zero_parse : parse (chrs (⟨#[40, 48, 41]⟩ : ByteArray)) = some ([], [false]) := by rfl
theorem zero_has : hasB [] [false] = fun _ => false := by
  funext n
  rw [hasB_ring' (Nat.zero_le _)]
  simp [Nat.mod_one]
theorem index_l0 (l : List Bool) (hl : l.length ≤ 1000000) : ∀ (d i : Nat), i ≤ l.length → l.length - i = d → ∃ v : Int, (v ≥ 0 ↔ anyFrom l i = true) ∧ Ev (fun k => slices_Index_bool_bool.l0 k l true l.length i) v := by
  intro d
  induction d with
  | zero =>
    intro i hi hd
    have e : i = l.length := by omega
    subst e
    refine ⟨-1, by rw [anyFrom_end]; simp, ?_⟩
    refine Ev.step (f := fun k => some (-1)) (fun k => ?_) (Ev.now _)
    simp only [slices_Index_bool_bool.l0]; rw [if_neg (by omega)]
  | succ d ih =>
    intro i hi hd
    rw [anyFrom_step (by omega)]
    cases h : l.getD i false with
    | true =>
      refine ⟨i, by simp, ?_⟩
      refine Ev.step (f := fun k => some (i : Int)) (fun k => ?_) (Ev.now _)
      simp only [slices_Index_bool_bool.l0]
      rw [if_pos (by omega), if_pos (by omega), if_pos (by omega), rdOf_nat, h, if_pos (by rfl)]
    | false =>
      obtain ⟨v, h1, h2⟩ := ih (i + 1) (by omega) (by omega)
      refine ⟨v, by rw [Bool.false_or]; exact h1, ?_⟩
      refine Ev.step (fun k => ?_) h2
      simp only [slices_Index_bool_bool.l0]
      rw [if_pos (by omega), if_pos (by omega), if_pos (by omega), rdOf_nat, h, if_neg (by decide), wsucc (by omega)]
theorem isetEnds_f (s : ByteArray) (hs : s.size ≤ 70368744177664) {a b : List Bool} (hp : parse (chrs s) = some (a, b)) : Ev (fun k => impl_SetEnds.f k s) (!anyFrom b 0) := by
  obtain ⟨x, y, hev, hxy⟩ := setOf_f s hs
  obtain ⟨rfl, rfl⟩ := hxy a b hp
  have hb := parse_some hp
  obtain ⟨v, h1, h2⟩ := index_l0 y (by omega) _ 0 (Nat.zero_le _) rfl
  refine Ev.congr (fun k => rfl) (Ev.bind hev ?_)
  simp only [hp, Option.isSome_some, if_true]
  have h3 : Ev (fun k => slices_Contains_bool_bool.f k y true) (anyFrom y 0) := by
    have e : anyFrom y 0 = decide (v ≥ 0) := by
      rw [Bool.eq_iff_iff, decide_eq_true_iff]; exact h1.symm
    rw [e]
    exact Ev.congr (fun k => rfl) (Ev.bind (f := fun k t => some (decide (t ≥ 0))) h2 (Ev.now _))
  exact Ev.bind h3 (Ev.now _)
end Go.Proofs.Ytmedlhoahddbmaa.P

-- impl.set.text writes the text of a set.
namespace Go.Proofs.Ytmedlhoahddbmaa.P
open Go.RowKit Go.Proofs.YtmedlhoahddbmaaW.PrintWords Go.Proofs.YtmedlhoahddbmaaW.PrintLast Go.Proofs.YtmedlhoahddbmaaW.PrintMore
set_option linter.unusedVariables false
set_option linter.unusedSimpArgs false

theorem told_f (l : List Bool) (h : l.length ≤ 70368744177664) : impl_told.f l = some ⟨(l.map sgn).toArray⟩ := by unfold impl_told.f; rw [if_pos h]
theorem text_f (t r : List Bool) (hl : t.length + r.length ≤ 70368744177664) : Ev (fun k => impl_set_text.f k t r) (txt (t, r)) := by
  have hj : ∀ b : Bool, (b = true ↔ ¬ (t.length ≤ 60 ∧ r.length ≤ 60)) → Ev (fun k => impl_set_text.j0 k b t r) (txt (t, r)) := by
    intro b hb
    cases b with
    | true =>
      refine Ev.step (f := fun k => some ((⟨#[]⟩ : ByteArray), false)) (fun k => ?_) ?_
      · simp only [impl_set_text.j0]; rw [if_pos trivial]
      · unfold txt; rw [if_neg (hb.1 rfl)]; exact Ev.now _
    | false =>
      have hb2 : t.length ≤ 60 ∧ r.length ≤ 60 := Classical.byContradiction fun h => absurd (hb.2 h) (by decide)
      have e1 : (⟨(t.map sgn).toArray⟩ : ByteArray).size = t.length := by show (t.map sgn).toArray.size = _; simp
      have e2 : (⟨(r.map sgn).toArray⟩ : ByteArray).size = r.length := by show (r.map sgn).toArray.size = _; simp
      refine Ev.step (f := fun k => some (textOf t r, true)) (fun k => ?_) ?_
      · simp only [impl_set_text.j0]
        rw [if_neg (by decide), told_f t (by omega)]
        simp only [Option.bind_some]
        rw [if_pos (by omega), told_f r (by omega)]
        simp only [Option.bind_some]
        rw [if_pos (by omega), if_pos (by omega)]
        congr 2
      · rw [txt_ok hb2.1 hb2.2]; exact Ev.now _
  unfold impl_set_text.f
  by_cases h : t.length ≤ 60
  · have h1 := hj (decide ((r.length : Int) > 60)) (by rw [decide_eq_true_iff]; omega)
    refine Ev.congr (fun k => ?_) h1
    rw [if_neg (by omega)]
  · have h1 := hj true (by simp; intro h2; omega)
    refine Ev.congr (fun k => ?_) h1
    rw [if_pos (by omega)]

end Go.Proofs.Ytmedlhoahddbmaa.P

-- impl.turns and tidy come to the tidy form.
namespace Go.Proofs.Ytmedlhoahddbmaa.P
open Go.RowKit Go.Proofs.YtmedlhoahddbmaaW.PrintWords Go.Proofs.YtmedlhoahddbmaaW.PrintLast Go.Proofs.YtmedlhoahddbmaaW.PrintMore
set_option linter.unusedVariables false
set_option linter.unusedSimpArgs false
theorem turns_l0 (r : List Bool) (d : Nat) (hd : 0 < d) (hdl : d ≤ r.length) (hl : r.length ≤ 70368744177664) : ∀ (m i : Nat), i ≤ r.length → r.length - i = m →
    (∀ j, j < i → r.getD j false = r.getD (j % d) false) → ∃ b, Ev (fun k => impl_turns.l0 k r d r.length i) b ∧ (b = true ↔ IsPer r d) := by
  intro m
  induction m with
  | zero =>
    intro i h1 h2 h3
    have e : i = r.length := by omega
    refine ⟨((r.length : Int) % (d : Int)) == 0, Ev.step (f := fun k => some (((r.length : Int) % (d : Int)) == 0)) (fun k => ?_) (Ev.now _), ?_⟩
    · simp only [impl_turns.l0]; rw [if_neg (by omega), if_neg (by omega)]
    · have hm : (r.length : Int) % (d : Int) = ((r.length % d : Nat) : Int) := rfl
      rw [beq_iff_eq, hm]
      constructor
      · intro h; exact IsPer.of_mod (by omega) hd (fun j hj => h3 j (by omega))
      · intro h; have := h.1; omega
  | succ m ih =>
    intro i h1 h2 h3
    have hmod : Int.tmod (i : Int) (d : Int) = ((i % d : Nat) : Int) := by rw [Int.tmod_eq_emod_of_nonneg (by omega)]; rfl
    have hml := Nat.mod_lt i hd
    have hw : wrap64 ((i : Int) + 1) = ((i + 1 : Nat) : Int) := by rw [w64 (by omega) (by omega)]; omega
    by_cases he : r.getD i false = r.getD (i % d) false
    · obtain ⟨b, hb, hbi⟩ := ih (i + 1) (by omega) (by omega) (fun j hj => by
        rcases Nat.lt_or_ge j i with h | h
        · exact h3 j h
        · have : j = i := by omega
          subst this; exact he)
      refine ⟨b, Ev.step (fun k => ?_) hb, hbi⟩
      simp only [impl_turns.l0]
      rw [if_pos (by omega), if_pos (by omega), if_pos (by omega), if_neg (by omega), hmod, if_pos (by omega), if_pos (by omega), rdOf_nat, rdOf_nat, if_neg (by rw [he]; simp), hw]
    · refine ⟨false, Ev.step (f := fun k => some false) (fun k => ?_) (Ev.now _), ?_⟩
      · simp only [impl_turns.l0]
        rw [if_pos (by omega), if_pos (by omega), if_pos (by omega), if_neg (by omega), hmod, if_pos (by omega), if_pos (by omega), rdOf_nat, rdOf_nat, if_pos (by rw [bne_iff_ne]; exact he)]
      · constructor
        · intro h; exact absurd h (by decide)
        · intro h; exact absurd (h.mod hd i (by omega)) he
theorem turns_f (r : List Bool) (d : Nat) (hd : 0 < d) (hdl : d ≤ r.length) (hl : r.length ≤ 70368744177664) : ∃ b, Ev (fun k => impl_turns.f k r d) b ∧ (b = true ↔ IsPer r d) := by
  obtain ⟨b, h, hb⟩ := turns_l0 r d hd hdl hl _ 0 (by omega) rfl (fun j hj => by omega)
  exact ⟨b, by simpa [impl_turns.f] using h, hb⟩
theorem clone_f (l : List Bool) (h : l.length ≤ 70368744177664) : slices_Clone_bool_bool.f l = some l := by unfold slices_Clone_bool_bool.f; rw [if_pos h]

theorem tidy_l1 : ∀ (n : Nat) (t r : List Bool), t.length = n → Prim r → t.length + r.length ≤ 70368744177664 → ∃ t' r', Ev (fun k => impl_set_tidy.l1 k r.length t r) (t', r') ∧ Tidy t r t' r' := by
  intro n
  induction n with
  | zero =>
    intro t r hn hp hl
    have ht : t = [] := List.eq_nil_of_length_eq_zero hn
    subst ht
    refine ⟨[], r, Ev.step (f := fun k => some (([] : List Bool), r)) (fun k => ?_) (Ev.now _), ⟨hp, .inl rfl⟩, fun _ => rfl, Nat.le_refl _, Nat.le_refl _⟩
    simp only [impl_set_tidy.l1]; rw [if_neg (by simp)]
  | succ n ih =>
    intro t r hn hp hl
    have hr := hp.1
    have hpos := List.length_pos_iff.2 hr
    have ht : t ≠ [] := by intro e; rw [e] at hn; simp at hn
    have w1 : wrap64 ((t.length : Int) - 1) = ((t.length - 1 : Nat) : Int) := by rw [w64 (by omega) (by omega)]; omega
    have w2 : wrap64 ((r.length : Int) - 1) = ((r.length - 1 : Nat) : Int) := by rw [w64 (by omega) (by omega)]; omega
    by_cases he : t.getD (t.length - 1) false = r.getD (r.length - 1) false
    · obtain ⟨t', r', hev, htd⟩ := ih (t.take (t.length - 1)) (rotR r) (by rw [List.length_take]; omega) (prim_rot hp) (by rw [rotR_length hr, List.length_take]; omega)
      rw [rotR_length hr] at hev
      refine ⟨t', r', Ev.step (fun k => ?_) hev, htd.canon, fun x => by rw [htd.has, rot_has ht hr he], by have := htd.tl; rw [List.length_take] at this; omega, by have := htd.rl; rw [rotR_length hr] at this; omega⟩
      simp only [impl_set_tidy.l1]
      rw [if_pos (by omega), w1, w2, if_pos (by omega), if_pos (by omega), if_pos (by omega), if_pos (by omega), rdOf_nat, rdOf_nat, if_pos (by rw [he]; exact beq_self_eq_true _), if_pos (by omega)]
      simp only [Option.bind_some]
      rw [if_pos (by omega)]
      simp only [Int.toNat_natCast]
      rw [if_pos (by simp; omega)]
      rfl
    · refine ⟨t, r, Ev.step (f := fun k => some (t, r)) (fun k => ?_) (Ev.now _), ⟨hp, .inr he⟩, fun _ => rfl, Nat.le_refl _, Nat.le_refl _⟩
      simp only [impl_set_tidy.l1]
      rw [if_pos (by omega), w1, w2, if_pos (by omega), if_pos (by omega), if_pos (by omega), if_pos (by omega), rdOf_nat, rdOf_nat, if_neg (by rw [beq_iff_eq]; exact he)]

theorem tidy_l0 (t r : List Bool) (hr : r ≠ []) (hl : t.length + r.length ≤ 70368744177664) : ∀ (m d : Nat), 0 < d → d ≤ r.length → r.length - d = m → (∀ d', 0 < d' → d' < d → ¬ IsPer r d') →
    ∃ t' r', Ev (fun k => impl_set_tidy.l0 k d t r) (t', r') ∧ Tidy t r t' r' := by
  have hpos := List.length_pos_iff.2 hr
  have hn : IsPer r r.length := ⟨Nat.mod_self _, fun i a b => by omega⟩
  intro m
  induction m with
  | zero =>
    intro d h0 h1 h2 h3
    have e : d = r.length := by omega
    obtain ⟨b, hb, hbi⟩ := turns_f r d h0 h1 (by omega)
    have hbt : b = true := hbi.2 (by rw [e]; exact hn)
    have hp : IsPer r d := hbi.1 hbt
    subst hbt
    have hlt : (r.take d).length = d := by rw [List.length_take]; omega
    obtain ⟨t', r', hev, htd⟩ := tidy_l1 _ t (r.take d) rfl (prim_take h0 h1 hp h3) (by omega)
    rw [hlt] at hev
    refine ⟨t', r', Ev.step (f := fun k => (impl_turns.f k r d).bind fun t161 => (if t161 = true then impl_set_tidy.l1 k d t (r.take d) else (impl_set_tidy.l0 k (wrap64 (d + 1)) t r))) (fun k => ?_) (Ev.bind hb (by simpa using hev)), htd.canon, fun x => by rw [htd.has, take_has hp h0 h1], htd.tl, by have := htd.rl; omega⟩
    simp only [impl_set_tidy.l0]
    congr 1; funext x
    rw [clone_f _ (by omega)]
    simp only [Option.bind_some, Int.toNat_natCast]
    cases x with
    | true => rw [if_pos rfl, if_pos rfl, if_pos (by omega), if_pos (by omega), clone_f _ (by rw [hlt]; omega)]; rfl
    | false => rw [if_neg (by decide), if_neg (by decide)]
  | succ m ih =>
    intro d h0 h1 h2 h3
    obtain ⟨b, hb, hbi⟩ := turns_f r d h0 h1 (by omega)
    have hw : wrap64 ((d : Int) + 1) = ((d + 1 : Nat) : Int) := by rw [w64 (by omega) (by omega)]; omega
    have hlt : (r.take d).length = d := by rw [List.length_take]; omega
    have st : ∀ k, impl_set_tidy.l0 (k + 1) d t r = (impl_turns.f k r d).bind fun t161 => (if t161 = true then impl_set_tidy.l1 k d t (r.take d) else (impl_set_tidy.l0 k ((d + 1 : Nat) : Int) t r)) := fun k => by
      simp only [impl_set_tidy.l0]
      congr 1; funext x
      rw [clone_f _ (by omega)]
      simp only [Option.bind_some, Int.toNat_natCast]
      cases x with
      | true => rw [if_pos rfl, if_pos rfl, if_pos (by omega), if_pos (by omega), clone_f _ (by rw [hlt]; omega)]; rfl
      | false => rw [if_neg (by decide), if_neg (by decide), hw]
    by_cases hp : IsPer r d
    · have hbt := hbi.2 hp
      subst hbt
      obtain ⟨t', r', hev, htd⟩ := tidy_l1 _ t (r.take d) rfl (prim_take h0 h1 hp h3) (by omega)
      rw [hlt] at hev
      exact ⟨t', r', Ev.step st (Ev.bind hb (by simpa using hev)), htd.canon, fun x => by rw [htd.has, take_has hp h0 h1], htd.tl, by have := htd.rl; omega⟩
    · have hbt : b = false := by cases b; rfl; exact absurd (hbi.1 rfl) hp
      subst hbt
      obtain ⟨t', r', hev, htd⟩ := ih (d + 1) (by omega) (by omega) (by omega) (fun d' a b => by
            rcases Nat.lt_or_ge d' d with h | h
            · exact h3 d' a h
            · have : d' = d := by omega
              subst this; exact hp)
      exact ⟨t', r', Ev.step st (Ev.bind hb (by simpa using hev)), htd⟩
theorem tidy_f (t r : List Bool) (hr : r ≠ []) (hl : t.length + r.length ≤ 70368744177664) : ∃ t' r', Ev (fun k => impl_set_tidy.f k t r) (t', r') ∧ Tidy t r t' r' := by
  have hpos := List.length_pos_iff.2 hr
  obtain ⟨t', r', h, htd⟩ := tidy_l0 t r hr hl _ 1 (by omega) (by omega) rfl (fun d a b => by omega)
  exact ⟨t', r', by simpa [impl_set_tidy.f] using h, htd⟩

theorem tidy_cn (t r : List Bool) (hr : r ≠ []) (hl : t.length + r.length ≤ 70368744177664) : Ev (fun k => impl_set_tidy.f k t r) (cn (hasB t r)) := by
  obtain ⟨t', r', h, ht⟩ := tidy_f t r hr hl
  rw [ht.cn]; exact h

end Go.Proofs.Ytmedlhoahddbmaa.P
