/- What these laws reach, joined by a program of this session: contracts (written by that program over the kit's print, or by hand) and plain lemmas. -/
import Derived.Shelf.Strings.Builder1
import Derived.Lib.Builder
import Derived.Lib.UnsafeStr
import Derived.Lib.Walk
import Derived.Laws.Externs
import Derived.BigCall
import Derived.Lib.Bytealg
import Derived.BigGuard
import Derived.Laws.AppendOwn
import Derived.Deep.RegionHeld3
import Derived.Deep.AppendLies
import Derived.Test.YtgheopbdmijlkaaK1
import Derived.Test.YtgheopbdmijlkaaK2
open Go.Proofs.YtgheopbdmijlkaaW.PrintWords renaming below_alloc → yA, pw_below_drewN → yB, below_drew1 → yC, below_set → yD, blk_drewN → yE, blk_drew → yF, blk_alloc → yG, below_step → yP, below_size → yQ
open Go.Proofs.YtgheopbdmijlkaaW.PrintWords.Kd renaming R_alloc → yH, R_drewN → yI, R_drew → yJ
open List renaming setIfInBounds_toArray → yK, set_cons_zero → yL, set_cons_succ → yM
namespace Go.Proofs.Ytgheopbdmijlkaa.P
open Go.RowKit Go.Proofs.YtgheopbdmijlkaaW.PrintWords Go.Proofs.YtgheopbdmijlkaaW.PrintLast Go.Proofs.YtgheopbdmijlkaaW.PrintMore
attribute [local go_sem] max2_int min2_int max_two min_two max_three min_three max_four min_four   -- for this text's walks alone
set_option linter.unusedVariables false
set_option linter.unusedSimpArgs false

/-! ### spec_MachIn: function 36 -/
def spec_MachIn.l0:Nat→Int→Int→List Int→Int→Int→Option (Bool)
 | 0,_,_,_,_,_=>none
 | k+1,x3,x4,x393000,x393001,x393002=>if x4<x3 then (if 0≤x4 then (if x4<(x393000.length:Int) then (if 0≤x3 then ((spec_l6In.f (rd x393000 x4) 0 (wrap64 ((shl .i64 1 x3) - 1))).bind fun t394=>(if t394=true then (spec_MachIn.l0 k x3 (wrap64 (x4+1)) x393000 x393001 x393002) else (some false))) else (none)) else (none)) else (none)) else ((spec_l6In.f x3 1 5).bind fun t395=>(if t395=true then (if 0≤x3 then ((spec_l6In.f x393001 0 (wrap64 ((shl .i64 1 x3) - 1))).bind fun t396=>(if t396=true then ((spec_l6In.f x393002 0 (wrap64 ((shl .i64 1 x3) - 1))).bind fun t397=>(some t397)) else (some false))) else (none)) else (some false)))
def spec_MachIn.f (k:Nat) (l0_0:List Int) (a0_1:Int) (a0_2:Int):Option (Bool):=spec_MachIn.l0 k (l0_0.length:Int) 0 l0_0 a0_1 a0_2
theorem spec_MachIn.mono_l:∀ k,(∀ y0 y1 y2 y3 y4,LeO (spec_MachIn.l0 k y0 y1 y2 y3 y4) (spec_MachIn.l0 (k+1) y0 y1 y2 y3 y4))
 | 0=>fun _ _ _ _ _ r h=>by simp [spec_MachIn.l0] at h
 | k+1=>by
  have ih0:=spec_MachIn.mono_l k
  ·intro y0 y1 y2 y3 y4
   unfold spec_MachIn.l0
   repeat' first
   | (with_reducible exact ih0 _ _ _ _ _)
   | (with_reducible exact LeO.refl _)
   | (with_reducible exact LeO.none _)
   | (with_reducible refine LeO.ite ?_ ?_)
   | (with_reducible refine LeO.bind ?_ (fun _=>?_))
   | exact ih0 _ _ _ _ _
   | exact LeO.none _
   | refine LeO.ite ?_ ?_
   | refine LeO.bind ?_ (fun _=>?_)
theorem spec_MachIn.mono:∀ a0 a1 a2 k,LeO (spec_MachIn.f k a0 a1 a2) (spec_MachIn.f (k+1) a0 a1 a2):=by
 intro a0 a1 a2 k
 have ih0:=spec_MachIn.mono_l k
 unfold spec_MachIn.f
 repeat' first
   | (with_reducible exact ih0 _ _ _ _ _)
   | (with_reducible exact LeO.refl _)
   | (with_reducible exact LeO.none _)
   | (with_reducible refine LeO.ite ?_ ?_)
   | (with_reducible refine LeO.bind ?_ (fun _=>?_))
   | exact ih0 _ _ _ _ _
   | exact LeO.none _
   | refine LeO.ite ?_ ?_
   | refine LeO.bind ?_ (fun _=>?_)
set_option maxHeartbeats 8000000 in
set_option maxRecDepth 100000 in
theorem spec_MachIn.calls (k:Nat) (A0_0:Option Addr) (c0_0:Nat) (l0_0:List Int) (a0_1:Int) (a0_2:Int) (r:Bool) (w:World) (hr0_0:Kd.C (Kd.int .i64) w A0_0 l0_0.length l0_0) (hc0_0:l0_0.length≤c0_0) (h:spec_MachIn.f k l0_0 a0_1 a0_2=some r) :
  Calls Try.prog 36 #[.agg #[.slice A0_0 l0_0.length c0_0,.int .i64 a0_1,.int .i64 a0_2]] w fun e w'=>e=.returned (.bool r)∧Below w.heap.size w w':=by
 have hu31:=Try.underlying31
 have HR0_0:=Aside0.mk hr0_0
 have HC0_0:=Aside0.mk hc0_0
 clear hr0_0 hc0_0
 have HB:=Aside0.mk (Below.refl w.heap.size w)
 have H:(spec_MachIn.l0 k (l0_0.length:Int) 0 l0_0 a0_1 a0_2)=some r:=h
 clear h
 have H':=Aside0.mk H
 clear H
 go_enter Try.func36,Try.ntmps36
 go_wp2_with (first|((with_reducible refine gate_dst (N:=1) rfl ?_);refine box_event ?hg (N:=1) ?hd (cs:=#[.slice A0_0 l0_0.length c0_0,.int .i64 a0_1,.int .i64 a0_2]) (t:=31) ?hr ?_;(case hd=>rfl);(case hg=>rfl);(case hr=>first|(go_simp;done)|(go_simp;rfl));intro gb392 hg w2 hbox hb;have n0_:=Aside0.mk (yP (by repeat (first|(with_reducible first|exact HB.out|apply yA|apply yB|apply yC)|exact HB.out)) hb);have n1_:=Aside0.mk (hbox);have n2_:=Aside0.mk ((by rw [hg];exact (yQ (by repeat (first|(with_reducible first|exact HB.out|apply yA|apply yB|apply yC)|exact HB.out))):w.heap.size≤gb392));have n3_:=Aside0.mk ((by rw [hg];exact (yQ (by repeat (first|(with_reducible first|exact HB.out|apply yA|apply yB|apply yC)|exact HB.out))):w.heap.size≤gb392));clear HB;have HB:=n0_;have BK392:=n1_;have GW392:=n2_;have GE392:=n3_;clear n0_ n1_ n2_ n3_;clear hb hbox hg;have hcz3_0:w2.cell? ⟨gb392,0,none⟩=some (.slice A0_0 l0_0.length c0_0):=(blk_cell BK392.out 0).trans rfl;have hcz3_1:w2.cell? ⟨gb392,1,none⟩=some (.int .i64 a0_1):=(blk_cell BK392.out 1).trans rfl;have hcz3_2:w2.cell? ⟨gb392,2,none⟩=some (.int .i64 a0_2):=(blk_cell BK392.out 2).trans rfl;have hfz3_0:=blk_frozen BK392.out 0;have hfz3_1:=blk_frozen BK392.out 1;have hfz3_2:=blk_frozen BK392.out 2))
 repeat (go_quiet (first|((with_reducible refine gate_dst (N:=1) rfl ?_);refine box_event ?hg (N:=1) ?hd (cs:=#[.slice A0_0 l0_0.length c0_0,.int .i64 a0_1,.int .i64 a0_2]) (t:=31) ?hr ?_;(case hd=>rfl);(case hg=>rfl);(case hr=>first|(go_simp;done)|(go_simp;rfl));intro gb392 hg w2 hbox hb;have n0_:=Aside0.mk (yP (by repeat (first|(with_reducible first|exact HB.out|apply yA|apply yB|apply yC)|exact HB.out)) hb);have n1_:=Aside0.mk (hbox);have n2_:=Aside0.mk ((by rw [hg];exact (yQ (by repeat (first|(with_reducible first|exact HB.out|apply yA|apply yB|apply yC)|exact HB.out))):w.heap.size≤gb392));have n3_:=Aside0.mk ((by rw [hg];exact (yQ (by repeat (first|(with_reducible first|exact HB.out|apply yA|apply yB|apply yC)|exact HB.out))):w.heap.size≤gb392));clear HB;have HB:=n0_;have BK392:=n1_;have GW392:=n2_;have GE392:=n3_;clear n0_ n1_ n2_ n3_;clear hb hbox hg;have hcz3_0:w2.cell? ⟨gb392,0,none⟩=some (.slice A0_0 l0_0.length c0_0):=(blk_cell BK392.out 0).trans rfl;have hcz3_1:w2.cell? ⟨gb392,1,none⟩=some (.int .i64 a0_1):=(blk_cell BK392.out 1).trans rfl;have hcz3_2:w2.cell? ⟨gb392,2,none⟩=some (.int .i64 a0_2):=(blk_cell BK392.out 2).trans rfl;have hfz3_0:=blk_frozen BK392.out 0;have hfz3_1:=blk_frozen BK392.out 1;have hfz3_2:=blk_frozen BK392.out 2));try go_wp2_with (first|((with_reducible refine gate_dst (N:=1) rfl ?_);refine box_event ?hg (N:=1) ?hd (cs:=#[.slice A0_0 l0_0.length c0_0,.int .i64 a0_1,.int .i64 a0_2]) (t:=31) ?hr ?_;(case hd=>rfl);(case hg=>rfl);(case hr=>first|(go_simp;done)|(go_simp;rfl));intro gb392 hg w2 hbox hb;have n0_:=Aside0.mk (yP (by repeat (first|(with_reducible first|exact HB.out|apply yA|apply yB|apply yC)|exact HB.out)) hb);have n1_:=Aside0.mk (hbox);have n2_:=Aside0.mk ((by rw [hg];exact (yQ (by repeat (first|(with_reducible first|exact HB.out|apply yA|apply yB|apply yC)|exact HB.out))):w.heap.size≤gb392));have n3_:=Aside0.mk ((by rw [hg];exact (yQ (by repeat (first|(with_reducible first|exact HB.out|apply yA|apply yB|apply yC)|exact HB.out))):w.heap.size≤gb392));clear HB;have HB:=n0_;have BK392:=n1_;have GW392:=n2_;have GE392:=n3_;clear n0_ n1_ n2_ n3_;clear hb hbox hg;have hcz3_0:w2.cell? ⟨gb392,0,none⟩=some (.slice A0_0 l0_0.length c0_0):=(blk_cell BK392.out 0).trans rfl;have hcz3_1:w2.cell? ⟨gb392,1,none⟩=some (.int .i64 a0_1):=(blk_cell BK392.out 1).trans rfl;have hcz3_2:w2.cell? ⟨gb392,2,none⟩=some (.int .i64 a0_2):=(blk_cell BK392.out 2).trans rfl;have hfz3_0:=blk_frozen BK392.out 0;have hfz3_1:=blk_frozen BK392.out 1;have hfz3_2:=blk_frozen BK392.out 2)))
 go_loopg [4] k (fun kq v4 w'=>∃ (x4_1:Int),v4=.int .i64 x4_1∧Aside0 (spec_MachIn.l0 kq (l0_0.length:Int) x4_1 l0_0 a0_1 a0_2=some r)∧Aside0 (kq≤k)∧Aside0 (w'.heap[gb392]?=some (.cells #[(.slice A0_0 l0_0.length c0_0),.int .i64 a0_1,.int .i64 a0_2] 31 (0,0)))∧Aside0 (Below w.heap.size w w'))
 case atStart=>exact ⟨(0),(by first|rfl|(simp;done)|(simp [*];done)|(simp [Int.tmod_eq_emod_of_nonneg];done)),H',⟨Nat.le_refl _⟩,⟨by (with_reducible repeat (first|refine yE ?_ _|refine yF ?_|refine yG ?_ _));exact BK392.out⟩,⟨by repeat (first|(with_reducible first|exact HB.out|apply yA|apply yB|apply yC|refine yD ?_ GE392.out)|exact HB.out)⟩⟩
 case round =>
  clear H'
  try clear p2
  try clear c3
  try clear hcz3_0
  try clear hcz3_1
  try clear hcz3_2
  try clear hfz3_0
  try clear hfz3_1
  try clear hfz3_2
  obtain ⟨x4_1,rfl,HA,HK1,BK392,HB⟩:=hrel
  cases gk with
  | zero=>exact absurd HA.out (by simp [spec_MachIn.l0])
  | succ k1 =>
   have H:=HA.out
   clear HA
   simp only [spec_MachIn.l0] at H
   by_cases c4:x4_1<(l0_0.length:Int)
   ·rw [if_pos c4] at H
    have c4b0:decide (x4_1<(l0_0.length:Int))=true:=decide_eq_true c4
    clear c4
    by_cases c5:0≤x4_1
    ·rw [if_pos c5] at H
     have c5b0:decide (0≤x4_1)=true:=decide_eq_true c5
     clear c5
     by_cases c6:x4_1<(l0_0.length:Int)
     ·rw [if_pos c6] at H
      have c6b0:decide (x4_1<(l0_0.length:Int))=true:=decide_eq_true c6
      clear c6
      by_cases c7:0≤(l0_0.length:Int)
      ·rw [if_pos c7] at H
       have c7b0:=eq_true c7
       have c7b1:decide (0≤(l0_0.length:Int))=true:=decide_eq_true c7
       clear c7
       obtain ⟨ji8,hji8⟩:∃ j_:Int,(shl .i64 1 (l0_0.length:Int))=j_:=⟨_,rfl⟩
       replace H:((spec_l6In.f (rd l0_0 x4_1) 0 (wrap64 ((ji8) - 1))).bind fun t394=>(if t394=true then (spec_MachIn.l0 k1 (l0_0.length:Int) (wrap64 (x4_1+1)) l0_0 a0_1 a0_2) else (some false)))=some r:=by first|(rw [hji8] at H;exact H)|(simp only [hji8] at H ⊢;exact H)
       have hji8_:(IntKind.i64.wrap (1 * 2 ^ min (l0_0.length:Int).toNat 64))=ji8:=hji8
       have hji8z:(l0_0.length:Int)≤64→(IntKind.i64.wrap (1 * 2 ^ (l0_0.length:Int).toNat))=ji8:=shl_small hji8
       have hji8p:(IntKind.i64.wrap (1 * 2 ^ min l0_0.length 64))=ji8:=hji8_
       have hji8q:(l0_0.length:Int)≤64→(IntKind.i64.wrap (1 * 2 ^ l0_0.length))=ji8:=hji8z
       have hji8r:(IntKind.i64.wrap (2 ^ min l0_0.length 64))=ji8:=by have h_:=hji8p;rw [Int.one_mul] at h_;exact h_
       have hji8s:(l0_0.length:Int)≤64→(IntKind.i64.wrap (2 ^ l0_0.length))=ji8:=fun hle_=>by have h_:=hji8q hle_;rw [Int.one_mul] at h_;exact h_
       have hji8u:(IntKind.i64.wrap (2 ^ min (l0_0.length:Int).toNat 64))=ji8:=by have h_:=hji8_;rw [Int.one_mul] at h_;exact h_
       have hji8v:(l0_0.length:Int)≤64→(IntKind.i64.wrap (2 ^ (l0_0.length:Int).toNat))=ji8:=fun hle_=>by have h_:=hji8z hle_;rw [Int.one_mul] at h_;exact h_
       have hji8y:(wrap64 (1 * 2 ^ min (l0_0.length:Int).toNat 64))=ji8:=(i64_w _).symm.trans hji8_
       have hji8x:(l0_0.length:Int)≤64→(wrap64 (1 * 2 ^ (l0_0.length:Int).toNat))=ji8:=fun h_=>(i64_w _).symm.trans (hji8z h_)
       replace H:=Option.bind_eq_some_iff.mp H
       obtain ⟨t394,A90,H⟩:=H
       replace H:(if t394=true then (spec_MachIn.l0 k1 (l0_0.length:Int) (wrap64 (x4_1+1)) l0_0 a0_1 a0_2) else (some false))=some r:=H
       have A9:=Aside0.mk A90
       clear A90
       by_cases c10:t394=true
       ·subst c10
        have H1:(spec_MachIn.l0 k1 (l0_0.length:Int) (wrap64 (x4_1+1)) l0_0 a0_1 a0_2)=some r:=by rw [if_pos rfl] at H;exact H
        clear H
        have H:=H1
        clear H1
        have H':=Aside0.mk H
        clear H
        have hcz11_0:wr.cell? ⟨gb392,0,none⟩=some (.slice A0_0 l0_0.length c0_0):=(blk_cell BK392.out 0).trans rfl
        have hcz11_1:wr.cell? ⟨gb392,1,none⟩=some (.int .i64 a0_1):=(blk_cell BK392.out 1).trans rfl
        have hcz11_2:wr.cell? ⟨gb392,2,none⟩=some (.int .i64 a0_2):=(blk_cell BK392.out 2).trans rfl
        have hfz11_0:=blk_frozen BK392.out 0
        have hfz11_1:=blk_frozen BK392.out 1
        have hfz11_2:=blk_frozen BK392.out 2
        have p393:0≤(x4_1:Int):=of_decide_eq_true (by first|(with_reducible assumption)|assumption)
        have q393:x4_1<(l0_0.length:Int):=of_decide_eq_true (by first|(with_reducible assumption)|assumption)
        obtain ⟨ad393,e393,hx393_0⟩:=Kd.at_int HR0_0.out x4_1 p393 q393
        cases e393
        replace hx393_0:=(HB.out.cell (World.block_lt_of_cell? w _ hx393_0)).trans hx393_0
        replace p393:=eq_true p393
        replace q393:=eq_true q393
        go_wp2_with (first|(go_at_call 57;(first|(with_reducible refine (spec_l6In.calls (rd l0_0 x4_1) 0 (wrap64 ((ji8) - 1)) true _ A9.out).mono ?_)|(with_reducible refine (spec_l6In.calls (rd l0_0 x4_1) 0 (IntKind.i64.wrap ((ji8) - 1)) true _ (by rw [i64_w];exact A9.out)).mono ?_));rintro e w' ⟨rfl,⟨nd,rfl⟩⟩;(try first|exact ⟨rfl,_,World.drewN_drewN _ _ _⟩|exact ⟨rfl,_,Eq.trans (World.drewN_drewN _ _ _) (congrArg (World.drewN _) (Nat.add_assoc _ _ _))⟩)))
        repeat (go_quiet (first|(go_at_call 57;(first|(with_reducible refine (spec_l6In.calls (rd l0_0 x4_1) 0 (wrap64 ((ji8) - 1)) true _ A9.out).mono ?_)|(with_reducible refine (spec_l6In.calls (rd l0_0 x4_1) 0 (IntKind.i64.wrap ((ji8) - 1)) true _ (by rw [i64_w];exact A9.out)).mono ?_));rintro e w' ⟨rfl,⟨nd,rfl⟩⟩;(try first|exact ⟨rfl,_,World.drewN_drewN _ _ _⟩|exact ⟨rfl,_,Eq.trans (World.drewN_drewN _ _ _) (congrArg (World.drewN _) (Nat.add_assoc _ _ _))⟩)));try go_wp2_with (first|(go_at_call 57;(first|(with_reducible refine (spec_l6In.calls (rd l0_0 x4_1) 0 (wrap64 ((ji8) - 1)) true _ A9.out).mono ?_)|(with_reducible refine (spec_l6In.calls (rd l0_0 x4_1) 0 (IntKind.i64.wrap ((ji8) - 1)) true _ (by rw [i64_w];exact A9.out)).mono ?_));rintro e w' ⟨rfl,⟨nd,rfl⟩⟩;(try first|exact ⟨rfl,_,World.drewN_drewN _ _ _⟩|exact ⟨rfl,_,Eq.trans (World.drewN_drewN _ _ _) (congrArg (World.drewN _) (Nat.add_assoc _ _ _))⟩))))
        go_roundg k1
        case measure=>have:=HK1.out;omega
        case rel=>exact ⟨(wrap64 (x4_1+1)),(by first|rfl|(simp;done)|(simp [*];done)|(simp [Int.tmod_eq_emod_of_nonneg];done)),H',⟨by have:=HK1.out;omega⟩,⟨by (with_reducible repeat (first|refine yE ?_ _|refine yF ?_|refine yG ?_ _));exact BK392.out⟩,⟨by repeat (first|(with_reducible first|exact HB.out|apply yA|apply yB|apply yC|refine yD ?_ GE392.out)|exact HB.out)⟩⟩
       ·replace c10:=Bool.eq_false_iff.mpr c10
        subst c10
        have H1:(some false)=some r:=by rw [if_neg (show ¬ (false=true) by decide)] at H;exact H
        clear H
        have H:=H1
        clear H1
        obtain rfl:=Option.some.inj H
        have hcz12_0:wr.cell? ⟨gb392,0,none⟩=some (.slice A0_0 l0_0.length c0_0):=(blk_cell BK392.out 0).trans rfl
        have hcz12_1:wr.cell? ⟨gb392,1,none⟩=some (.int .i64 a0_1):=(blk_cell BK392.out 1).trans rfl
        have hcz12_2:wr.cell? ⟨gb392,2,none⟩=some (.int .i64 a0_2):=(blk_cell BK392.out 2).trans rfl
        have hfz12_0:=blk_frozen BK392.out 0
        have hfz12_1:=blk_frozen BK392.out 1
        have hfz12_2:=blk_frozen BK392.out 2
        have p393:0≤(x4_1:Int):=of_decide_eq_true (by first|(with_reducible assumption)|assumption)
        have q393:x4_1<(l0_0.length:Int):=of_decide_eq_true (by first|(with_reducible assumption)|assumption)
        obtain ⟨ad393,e393,hx393_0⟩:=Kd.at_int HR0_0.out x4_1 p393 q393
        cases e393
        replace hx393_0:=(HB.out.cell (World.block_lt_of_cell? w _ hx393_0)).trans hx393_0
        replace p393:=eq_true p393
        replace q393:=eq_true q393
        go_wp2_with (first|(go_at_call 57;(first|(with_reducible refine (spec_l6In.calls (rd l0_0 x4_1) 0 (wrap64 ((ji8) - 1)) false _ A9.out).mono ?_)|(with_reducible refine (spec_l6In.calls (rd l0_0 x4_1) 0 (IntKind.i64.wrap ((ji8) - 1)) false _ (by rw [i64_w];exact A9.out)).mono ?_));rintro e w' ⟨rfl,⟨nd,rfl⟩⟩;(try first|exact ⟨rfl,_,World.drewN_drewN _ _ _⟩|exact ⟨rfl,_,Eq.trans (World.drewN_drewN _ _ _) (congrArg (World.drewN _) (Nat.add_assoc _ _ _))⟩)))
        repeat (go_quiet (first|(go_at_call 57;(first|(with_reducible refine (spec_l6In.calls (rd l0_0 x4_1) 0 (wrap64 ((ji8) - 1)) false _ A9.out).mono ?_)|(with_reducible refine (spec_l6In.calls (rd l0_0 x4_1) 0 (IntKind.i64.wrap ((ji8) - 1)) false _ (by rw [i64_w];exact A9.out)).mono ?_));rintro e w' ⟨rfl,⟨nd,rfl⟩⟩;(try first|exact ⟨rfl,_,World.drewN_drewN _ _ _⟩|exact ⟨rfl,_,Eq.trans (World.drewN_drewN _ _ _) (congrArg (World.drewN _) (Nat.add_assoc _ _ _))⟩)));try go_wp2_with (first|(go_at_call 57;(first|(with_reducible refine (spec_l6In.calls (rd l0_0 x4_1) 0 (wrap64 ((ji8) - 1)) false _ A9.out).mono ?_)|(with_reducible refine (spec_l6In.calls (rd l0_0 x4_1) 0 (IntKind.i64.wrap ((ji8) - 1)) false _ (by rw [i64_w];exact A9.out)).mono ?_));rintro e w' ⟨rfl,⟨nd,rfl⟩⟩;(try first|exact ⟨rfl,_,World.drewN_drewN _ _ _⟩|exact ⟨rfl,_,Eq.trans (World.drewN_drewN _ _ _) (congrArg (World.drewN _) (Nat.add_assoc _ _ _))⟩))))
        go_ret
        exact ⟨by first|rfl|(simp [errW_none,errW_some]<;>rfl)|(simp only [← hji8];first|rfl|(simp [errW_none,errW_some]<;>rfl))|(simp [*,errW_none,errW_some]<;>rfl),by repeat (first|(with_reducible first|exact HB.out|apply yA|apply yB|apply yC|refine yD ?_ GE392.out)|exact HB.out)⟩
      ·rw [if_neg c7] at H
       exact absurd H (by simp)
     ·rw [if_neg c6] at H
      exact absurd H (by simp)
    ·rw [if_neg c5] at H
     exact absurd H (by simp)
   ·rw [if_neg c4] at H
    have c4b0:decide (x4_1<(l0_0.length:Int))=false:=decide_eq_false c4
    clear c4
    replace H:=Option.bind_eq_some_iff.mp H
    obtain ⟨t395,A130,H⟩:=H
    replace H:(if t395=true then (if 0≤(l0_0.length:Int) then ((spec_l6In.f a0_1 0 (wrap64 ((shl .i64 1 (l0_0.length:Int)) - 1))).bind fun t396=>(if t396=true then ((spec_l6In.f a0_2 0 (wrap64 ((shl .i64 1 (l0_0.length:Int)) - 1))).bind fun t397=>(some t397)) else (some false))) else (none)) else (some false))=some r:=H
    have A13:=Aside0.mk A130
    clear A130
    by_cases c14:t395=true
    ·subst c14
     have H1:(if 0≤(l0_0.length:Int) then ((spec_l6In.f a0_1 0 (wrap64 ((shl .i64 1 (l0_0.length:Int)) - 1))).bind fun t396=>(if t396=true then ((spec_l6In.f a0_2 0 (wrap64 ((shl .i64 1 (l0_0.length:Int)) - 1))).bind fun t397=>(some t397)) else (some false))) else (none))=some r:=by rw [if_pos rfl] at H;exact H
     clear H
     have H:=H1
     clear H1
     by_cases c15:0≤(l0_0.length:Int)
     ·rw [if_pos c15] at H
      have c15b0:=eq_true c15
      have c15b1:decide (0≤(l0_0.length:Int))=true:=decide_eq_true c15
      clear c15
      obtain ⟨ji16,hji16⟩:∃ j_:Int,(shl .i64 1 (l0_0.length:Int))=j_:=⟨_,rfl⟩
      replace H:((spec_l6In.f a0_1 0 (wrap64 ((ji16) - 1))).bind fun t396=>(if t396=true then ((spec_l6In.f a0_2 0 (wrap64 ((ji16) - 1))).bind fun t397=>(some t397)) else (some false)))=some r:=by first|(rw [hji16] at H;exact H)|(simp only [hji16] at H ⊢;exact H)
      (try rw [hji16] at A13)
      have hji16_:(IntKind.i64.wrap (1 * 2 ^ min (l0_0.length:Int).toNat 64))=ji16:=hji16
      have hji16z:(l0_0.length:Int)≤64→(IntKind.i64.wrap (1 * 2 ^ (l0_0.length:Int).toNat))=ji16:=shl_small hji16
      have hji16p:(IntKind.i64.wrap (1 * 2 ^ min l0_0.length 64))=ji16:=hji16_
      have hji16q:(l0_0.length:Int)≤64→(IntKind.i64.wrap (1 * 2 ^ l0_0.length))=ji16:=hji16z
      have hji16r:(IntKind.i64.wrap (2 ^ min l0_0.length 64))=ji16:=by have h_:=hji16p;rw [Int.one_mul] at h_;exact h_
      have hji16s:(l0_0.length:Int)≤64→(IntKind.i64.wrap (2 ^ l0_0.length))=ji16:=fun hle_=>by have h_:=hji16q hle_;rw [Int.one_mul] at h_;exact h_
      have hji16u:(IntKind.i64.wrap (2 ^ min (l0_0.length:Int).toNat 64))=ji16:=by have h_:=hji16_;rw [Int.one_mul] at h_;exact h_
      have hji16v:(l0_0.length:Int)≤64→(IntKind.i64.wrap (2 ^ (l0_0.length:Int).toNat))=ji16:=fun hle_=>by have h_:=hji16z hle_;rw [Int.one_mul] at h_;exact h_
      have hji16y:(wrap64 (1 * 2 ^ min (l0_0.length:Int).toNat 64))=ji16:=(i64_w _).symm.trans hji16_
      have hji16x:(l0_0.length:Int)≤64→(wrap64 (1 * 2 ^ (l0_0.length:Int).toNat))=ji16:=fun h_=>(i64_w _).symm.trans (hji16z h_)
      replace H:=Option.bind_eq_some_iff.mp H
      obtain ⟨t396,A170,H⟩:=H
      replace H:(if t396=true then ((spec_l6In.f a0_2 0 (wrap64 ((ji16) - 1))).bind fun t397=>(some t397)) else (some false))=some r:=H
      have A17:=Aside0.mk A170
      clear A170
      by_cases c18:t396=true
      ·subst c18
       have H1:((spec_l6In.f a0_2 0 (wrap64 ((ji16) - 1))).bind fun t397=>(some t397))=some r:=by rw [if_pos rfl] at H;exact H
       clear H
       have H:=H1
       clear H1
       have c19b0:=eq_true (of_decide_eq_true (by first|(with_reducible assumption)|assumption):0≤(l0_0.length:Int))
       replace H:=Option.bind_eq_some_iff.mp H
       obtain ⟨t397,A210,H⟩:=H
       replace H:(some t397)=some r:=H
       have A21:=Aside0.mk A210
       clear A210
       obtain rfl:=Option.some.inj H
       go_wp2_with (first|(go_at_call 57;(with_reducible refine (spec_l6In.calls (l0_0.length:Int) 1 5 true _ A13.out).mono ?_);rintro e w' ⟨rfl,⟨nd,rfl⟩⟩;(try first|exact ⟨rfl,_,World.drewN_drewN _ _ _⟩|exact ⟨rfl,_,Eq.trans (World.drewN_drewN _ _ _) (congrArg (World.drewN _) (Nat.add_assoc _ _ _))⟩);have hcz22_0:wr.cell? ⟨gb392,0,none⟩=some (.slice A0_0 l0_0.length c0_0):=(blk_cell BK392.out 0).trans rfl;have hcz22_1:wr.cell? ⟨gb392,1,none⟩=some (.int .i64 a0_1):=(blk_cell BK392.out 1).trans rfl;have hcz22_2:wr.cell? ⟨gb392,2,none⟩=some (.int .i64 a0_2):=(blk_cell BK392.out 2).trans rfl;have hfz22_0:=blk_frozen BK392.out 0;have hfz22_1:=blk_frozen BK392.out 1;have hfz22_2:=blk_frozen BK392.out 2)|(go_at_call 57;(first|(with_reducible refine (spec_l6In.calls a0_1 0 (wrap64 ((ji16) - 1)) true _ A17.out).mono ?_)|(with_reducible refine (spec_l6In.calls a0_1 0 (IntKind.i64.wrap ((ji16) - 1)) true _ (by rw [i64_w];exact A17.out)).mono ?_));rintro e w' ⟨rfl,⟨nd,rfl⟩⟩;(try first|exact ⟨rfl,_,World.drewN_drewN _ _ _⟩|exact ⟨rfl,_,Eq.trans (World.drewN_drewN _ _ _) (congrArg (World.drewN _) (Nat.add_assoc _ _ _))⟩))|(go_at_call 57;(first|(with_reducible refine (spec_l6In.calls a0_2 0 (wrap64 ((ji16) - 1)) t397 _ A21.out).mono ?_)|(with_reducible refine (spec_l6In.calls a0_2 0 (IntKind.i64.wrap ((ji16) - 1)) t397 _ (by rw [i64_w];exact A21.out)).mono ?_));rintro e w' ⟨rfl,⟨nd,rfl⟩⟩;(try first|exact ⟨rfl,_,World.drewN_drewN _ _ _⟩|exact ⟨rfl,_,Eq.trans (World.drewN_drewN _ _ _) (congrArg (World.drewN _) (Nat.add_assoc _ _ _))⟩)))
       repeat (go_quiet (first|(go_at_call 57;(with_reducible refine (spec_l6In.calls (l0_0.length:Int) 1 5 true _ A13.out).mono ?_);rintro e w' ⟨rfl,⟨nd,rfl⟩⟩;(try first|exact ⟨rfl,_,World.drewN_drewN _ _ _⟩|exact ⟨rfl,_,Eq.trans (World.drewN_drewN _ _ _) (congrArg (World.drewN _) (Nat.add_assoc _ _ _))⟩);have hcz22_0:wr.cell? ⟨gb392,0,none⟩=some (.slice A0_0 l0_0.length c0_0):=(blk_cell BK392.out 0).trans rfl;have hcz22_1:wr.cell? ⟨gb392,1,none⟩=some (.int .i64 a0_1):=(blk_cell BK392.out 1).trans rfl;have hcz22_2:wr.cell? ⟨gb392,2,none⟩=some (.int .i64 a0_2):=(blk_cell BK392.out 2).trans rfl;have hfz22_0:=blk_frozen BK392.out 0;have hfz22_1:=blk_frozen BK392.out 1;have hfz22_2:=blk_frozen BK392.out 2)|(go_at_call 57;(first|(with_reducible refine (spec_l6In.calls a0_1 0 (wrap64 ((ji16) - 1)) true _ A17.out).mono ?_)|(with_reducible refine (spec_l6In.calls a0_1 0 (IntKind.i64.wrap ((ji16) - 1)) true _ (by rw [i64_w];exact A17.out)).mono ?_));rintro e w' ⟨rfl,⟨nd,rfl⟩⟩;(try first|exact ⟨rfl,_,World.drewN_drewN _ _ _⟩|exact ⟨rfl,_,Eq.trans (World.drewN_drewN _ _ _) (congrArg (World.drewN _) (Nat.add_assoc _ _ _))⟩))|(go_at_call 57;(first|(with_reducible refine (spec_l6In.calls a0_2 0 (wrap64 ((ji16) - 1)) t397 _ A21.out).mono ?_)|(with_reducible refine (spec_l6In.calls a0_2 0 (IntKind.i64.wrap ((ji16) - 1)) t397 _ (by rw [i64_w];exact A21.out)).mono ?_));rintro e w' ⟨rfl,⟨nd,rfl⟩⟩;(try first|exact ⟨rfl,_,World.drewN_drewN _ _ _⟩|exact ⟨rfl,_,Eq.trans (World.drewN_drewN _ _ _) (congrArg (World.drewN _) (Nat.add_assoc _ _ _))⟩)));try go_wp2_with (first|(go_at_call 57;(with_reducible refine (spec_l6In.calls (l0_0.length:Int) 1 5 true _ A13.out).mono ?_);rintro e w' ⟨rfl,⟨nd,rfl⟩⟩;(try first|exact ⟨rfl,_,World.drewN_drewN _ _ _⟩|exact ⟨rfl,_,Eq.trans (World.drewN_drewN _ _ _) (congrArg (World.drewN _) (Nat.add_assoc _ _ _))⟩);have hcz22_0:wr.cell? ⟨gb392,0,none⟩=some (.slice A0_0 l0_0.length c0_0):=(blk_cell BK392.out 0).trans rfl;have hcz22_1:wr.cell? ⟨gb392,1,none⟩=some (.int .i64 a0_1):=(blk_cell BK392.out 1).trans rfl;have hcz22_2:wr.cell? ⟨gb392,2,none⟩=some (.int .i64 a0_2):=(blk_cell BK392.out 2).trans rfl;have hfz22_0:=blk_frozen BK392.out 0;have hfz22_1:=blk_frozen BK392.out 1;have hfz22_2:=blk_frozen BK392.out 2)|(go_at_call 57;(first|(with_reducible refine (spec_l6In.calls a0_1 0 (wrap64 ((ji16) - 1)) true _ A17.out).mono ?_)|(with_reducible refine (spec_l6In.calls a0_1 0 (IntKind.i64.wrap ((ji16) - 1)) true _ (by rw [i64_w];exact A17.out)).mono ?_));rintro e w' ⟨rfl,⟨nd,rfl⟩⟩;(try first|exact ⟨rfl,_,World.drewN_drewN _ _ _⟩|exact ⟨rfl,_,Eq.trans (World.drewN_drewN _ _ _) (congrArg (World.drewN _) (Nat.add_assoc _ _ _))⟩))|(go_at_call 57;(first|(with_reducible refine (spec_l6In.calls a0_2 0 (wrap64 ((ji16) - 1)) t397 _ A21.out).mono ?_)|(with_reducible refine (spec_l6In.calls a0_2 0 (IntKind.i64.wrap ((ji16) - 1)) t397 _ (by rw [i64_w];exact A21.out)).mono ?_));rintro e w' ⟨rfl,⟨nd,rfl⟩⟩;(try first|exact ⟨rfl,_,World.drewN_drewN _ _ _⟩|exact ⟨rfl,_,Eq.trans (World.drewN_drewN _ _ _) (congrArg (World.drewN _) (Nat.add_assoc _ _ _))⟩))))
       go_ret
       exact ⟨by first|rfl|(simp [errW_none,errW_some]<;>rfl)|(simp only [← hji16];first|rfl|(simp [errW_none,errW_some]<;>rfl))|(simp [*,errW_none,errW_some]<;>rfl),by repeat (first|(with_reducible first|exact HB.out|apply yA|apply yB|apply yC|refine yD ?_ GE392.out)|exact HB.out)⟩
      ·replace c18:=Bool.eq_false_iff.mpr c18
       subst c18
       have H1:(some false)=some r:=by rw [if_neg (show ¬ (false=true) by decide)] at H;exact H
       clear H
       have H:=H1
       clear H1
       obtain rfl:=Option.some.inj H
       go_wp2_with (first|(go_at_call 57;(with_reducible refine (spec_l6In.calls (l0_0.length:Int) 1 5 true _ A13.out).mono ?_);rintro e w' ⟨rfl,⟨nd,rfl⟩⟩;(try first|exact ⟨rfl,_,World.drewN_drewN _ _ _⟩|exact ⟨rfl,_,Eq.trans (World.drewN_drewN _ _ _) (congrArg (World.drewN _) (Nat.add_assoc _ _ _))⟩);have hcz23_0:wr.cell? ⟨gb392,0,none⟩=some (.slice A0_0 l0_0.length c0_0):=(blk_cell BK392.out 0).trans rfl;have hcz23_1:wr.cell? ⟨gb392,1,none⟩=some (.int .i64 a0_1):=(blk_cell BK392.out 1).trans rfl;have hcz23_2:wr.cell? ⟨gb392,2,none⟩=some (.int .i64 a0_2):=(blk_cell BK392.out 2).trans rfl;have hfz23_0:=blk_frozen BK392.out 0;have hfz23_1:=blk_frozen BK392.out 1;have hfz23_2:=blk_frozen BK392.out 2)|(go_at_call 57;(first|(with_reducible refine (spec_l6In.calls a0_1 0 (wrap64 ((ji16) - 1)) false _ A17.out).mono ?_)|(with_reducible refine (spec_l6In.calls a0_1 0 (IntKind.i64.wrap ((ji16) - 1)) false _ (by rw [i64_w];exact A17.out)).mono ?_));rintro e w' ⟨rfl,⟨nd,rfl⟩⟩;(try first|exact ⟨rfl,_,World.drewN_drewN _ _ _⟩|exact ⟨rfl,_,Eq.trans (World.drewN_drewN _ _ _) (congrArg (World.drewN _) (Nat.add_assoc _ _ _))⟩)))
       repeat (go_quiet (first|(go_at_call 57;(with_reducible refine (spec_l6In.calls (l0_0.length:Int) 1 5 true _ A13.out).mono ?_);rintro e w' ⟨rfl,⟨nd,rfl⟩⟩;(try first|exact ⟨rfl,_,World.drewN_drewN _ _ _⟩|exact ⟨rfl,_,Eq.trans (World.drewN_drewN _ _ _) (congrArg (World.drewN _) (Nat.add_assoc _ _ _))⟩);have hcz23_0:wr.cell? ⟨gb392,0,none⟩=some (.slice A0_0 l0_0.length c0_0):=(blk_cell BK392.out 0).trans rfl;have hcz23_1:wr.cell? ⟨gb392,1,none⟩=some (.int .i64 a0_1):=(blk_cell BK392.out 1).trans rfl;have hcz23_2:wr.cell? ⟨gb392,2,none⟩=some (.int .i64 a0_2):=(blk_cell BK392.out 2).trans rfl;have hfz23_0:=blk_frozen BK392.out 0;have hfz23_1:=blk_frozen BK392.out 1;have hfz23_2:=blk_frozen BK392.out 2)|(go_at_call 57;(first|(with_reducible refine (spec_l6In.calls a0_1 0 (wrap64 ((ji16) - 1)) false _ A17.out).mono ?_)|(with_reducible refine (spec_l6In.calls a0_1 0 (IntKind.i64.wrap ((ji16) - 1)) false _ (by rw [i64_w];exact A17.out)).mono ?_));rintro e w' ⟨rfl,⟨nd,rfl⟩⟩;(try first|exact ⟨rfl,_,World.drewN_drewN _ _ _⟩|exact ⟨rfl,_,Eq.trans (World.drewN_drewN _ _ _) (congrArg (World.drewN _) (Nat.add_assoc _ _ _))⟩)));try go_wp2_with (first|(go_at_call 57;(with_reducible refine (spec_l6In.calls (l0_0.length:Int) 1 5 true _ A13.out).mono ?_);rintro e w' ⟨rfl,⟨nd,rfl⟩⟩;(try first|exact ⟨rfl,_,World.drewN_drewN _ _ _⟩|exact ⟨rfl,_,Eq.trans (World.drewN_drewN _ _ _) (congrArg (World.drewN _) (Nat.add_assoc _ _ _))⟩);have hcz23_0:wr.cell? ⟨gb392,0,none⟩=some (.slice A0_0 l0_0.length c0_0):=(blk_cell BK392.out 0).trans rfl;have hcz23_1:wr.cell? ⟨gb392,1,none⟩=some (.int .i64 a0_1):=(blk_cell BK392.out 1).trans rfl;have hcz23_2:wr.cell? ⟨gb392,2,none⟩=some (.int .i64 a0_2):=(blk_cell BK392.out 2).trans rfl;have hfz23_0:=blk_frozen BK392.out 0;have hfz23_1:=blk_frozen BK392.out 1;have hfz23_2:=blk_frozen BK392.out 2)|(go_at_call 57;(first|(with_reducible refine (spec_l6In.calls a0_1 0 (wrap64 ((ji16) - 1)) false _ A17.out).mono ?_)|(with_reducible refine (spec_l6In.calls a0_1 0 (IntKind.i64.wrap ((ji16) - 1)) false _ (by rw [i64_w];exact A17.out)).mono ?_));rintro e w' ⟨rfl,⟨nd,rfl⟩⟩;(try first|exact ⟨rfl,_,World.drewN_drewN _ _ _⟩|exact ⟨rfl,_,Eq.trans (World.drewN_drewN _ _ _) (congrArg (World.drewN _) (Nat.add_assoc _ _ _))⟩))))
       go_ret
       exact ⟨by first|rfl|(simp [errW_none,errW_some]<;>rfl)|(simp only [← hji16];first|rfl|(simp [errW_none,errW_some]<;>rfl))|(simp [*,errW_none,errW_some]<;>rfl),by repeat (first|(with_reducible first|exact HB.out|apply yA|apply yB|apply yC|refine yD ?_ GE392.out)|exact HB.out)⟩
     ·rw [if_neg c15] at H
      exact absurd H (by simp)
    ·replace c14:=Bool.eq_false_iff.mpr c14
     subst c14
     have H1:(some false)=some r:=by rw [if_neg (show ¬ (false=true) by decide)] at H;exact H
     clear H
     have H:=H1
     clear H1
     obtain rfl:=Option.some.inj H
     go_wp2_with (first|(go_at_call 57;(with_reducible refine (spec_l6In.calls (l0_0.length:Int) 1 5 false _ A13.out).mono ?_);rintro e w' ⟨rfl,⟨nd,rfl⟩⟩;(try first|exact ⟨rfl,_,World.drewN_drewN _ _ _⟩|exact ⟨rfl,_,Eq.trans (World.drewN_drewN _ _ _) (congrArg (World.drewN _) (Nat.add_assoc _ _ _))⟩)))
     repeat (go_quiet (first|(go_at_call 57;(with_reducible refine (spec_l6In.calls (l0_0.length:Int) 1 5 false _ A13.out).mono ?_);rintro e w' ⟨rfl,⟨nd,rfl⟩⟩;(try first|exact ⟨rfl,_,World.drewN_drewN _ _ _⟩|exact ⟨rfl,_,Eq.trans (World.drewN_drewN _ _ _) (congrArg (World.drewN _) (Nat.add_assoc _ _ _))⟩)));try go_wp2_with (first|(go_at_call 57;(with_reducible refine (spec_l6In.calls (l0_0.length:Int) 1 5 false _ A13.out).mono ?_);rintro e w' ⟨rfl,⟨nd,rfl⟩⟩;(try first|exact ⟨rfl,_,World.drewN_drewN _ _ _⟩|exact ⟨rfl,_,Eq.trans (World.drewN_drewN _ _ _) (congrArg (World.drewN _) (Nat.add_assoc _ _ _))⟩))))
     go_ret
     exact ⟨by first|rfl|(simp [errW_none,errW_some]<;>rfl)|(simp [*,errW_none,errW_some]<;>rfl)|(simp [errW_none,errW_some];exact ⟨rfl,rfl⟩),by repeat (first|(with_reducible first|exact HB.out|apply yA|apply yB|apply yC|refine yD ?_ GE392.out)|exact HB.out)⟩

end Go.Proofs.Ytgheopbdmijlkaa.P

namespace Go.Proofs.Ytgheopbdmijlkaa.P
open Go.RowKit Go.Proofs.YtgheopbdmijlkaaW.PrintWords Go.Proofs.YtgheopbdmijlkaaW.PrintLast Go.Proofs.YtgheopbdmijlkaaW.PrintMore
attribute [local go_sem] max2_int min2_int max_two min_two max_three min_three max_four min_four   -- for this text's walks alone
set_option linter.unusedVariables false
set_option linter.unusedSimpArgs false

/-! ### spec_MachFew: function 20 -/
def spec_MachFew.f (k:Nat) (l0_0:List Int) (a0_1:Int) (a0_2:Int):Option (Int × Bool):=(spec_MachIn.f k l0_0 a0_1 a0_2).bind fun t444=>(if t444=true then ((spec_l6mSet.f k l0_0 a0_1 a0_2).bind fun bt445=>(some (wrap64 ((bt445.1.length:Int)+(bt445.2.length:Int)),true))) else (some (0,false)))
theorem spec_MachFew.mono:∀ a0 a1 a2 k,LeO (spec_MachFew.f k a0 a1 a2) (spec_MachFew.f (k+1) a0 a1 a2):=by
 intro a0 a1 a2 k
 unfold spec_MachFew.f
 repeat' first
   | (with_reducible exact spec_MachIn.mono _ _ _ _)
   | (with_reducible exact spec_l6mSet.mono _ _ _ _)
   | (with_reducible exact LeO.refl _)
   | (with_reducible exact LeO.none _)
   | (with_reducible refine LeO.ite ?_ ?_)
   | (with_reducible refine LeO.bind ?_ (fun _=>?_))
   | exact spec_MachIn.mono _ _ _ _
   | exact spec_l6mSet.mono _ _ _ _
   | exact LeO.none _
   | refine LeO.ite ?_ ?_
   | refine LeO.bind ?_ (fun _=>?_)
set_option maxHeartbeats 8000000 in
set_option maxRecDepth 100000 in
theorem spec_MachFew.calls (k:Nat) (A0_0:Option Addr) (c0_0:Nat) (l0_0:List Int) (a0_1:Int) (a0_2:Int) (r1:Int) (r2:Bool) (w:World) (hr0_0:Kd.C (Kd.int .i64) w A0_0 l0_0.length l0_0) (hc0_0:l0_0.length≤c0_0) (h:spec_MachFew.f k l0_0 a0_1 a0_2=some (r1,r2)) :
  Calls Try.prog 20 #[.agg #[.slice A0_0 l0_0.length c0_0,.int .i64 a0_1,.int .i64 a0_2]] w fun e w'=>e=.returned (.tuple #[.int .i64 r1,.bool r2])∧Below w.heap.size w w':=by
 have hu31:=Try.underlying31
 have hu50:=Try.underlying50
 have HR0_0:=Aside0.mk hr0_0
 have HC0_0:=Aside0.mk hc0_0
 clear hr0_0 hc0_0
 have HB:=Aside0.mk (Below.refl w.heap.size w)
 have H:((spec_MachIn.f k l0_0 a0_1 a0_2).bind fun t444=>(if t444=true then ((spec_l6mSet.f k l0_0 a0_1 a0_2).bind fun bt445=>(some (wrap64 ((bt445.1.length:Int)+(bt445.2.length:Int)),true))) else (some (0,false))))=some (r1,r2):=h
 clear h
 replace H:=Option.bind_eq_some_iff.mp H
 obtain ⟨t444,A20,H⟩:=H
 replace H:(if t444=true then ((spec_l6mSet.f k l0_0 a0_1 a0_2).bind fun bt445=>(some (wrap64 ((bt445.1.length:Int)+(bt445.2.length:Int)),true))) else (some (0,false)))=some (r1,r2):=H
 have A2:=Aside0.mk A20
 clear A20
 by_cases c3:t444=true
 ·subst c3
  have H1:((spec_l6mSet.f k l0_0 a0_1 a0_2).bind fun bt445=>(some (wrap64 ((bt445.1.length:Int)+(bt445.2.length:Int)),true)))=some (r1,r2):=by rw [if_pos rfl] at H;exact H
  clear H
  have H:=H1
  clear H1
  replace H:=Option.bind_eq_some_iff.mp H
  obtain ⟨⟨t445,t448⟩,A40,H⟩:=H
  replace H:(some (wrap64 ((t445.length:Int)+(t448.length:Int)),true))=some (r1,r2):=H
  have A4:=Aside0.mk A40
  clear A40
  simp only [Option.some.injEq,Prod.mk.injEq] at H
  obtain ⟨rfl,rfl⟩:=H
  go_enter Try.func20,Try.ntmps20
  go_wp2_with (first|((with_reducible refine gate_dst (N:=1) rfl ?_);refine box_event ?hg (N:=1) ?hd (cs:=#[.slice A0_0 l0_0.length c0_0,.int .i64 a0_1,.int .i64 a0_2]) (t:=31) ?hr ?_;(case hd=>rfl);(case hg=>rfl);(case hr=>first|(go_simp;done)|(go_simp;rfl));intro gb443 hg w5 hbox hb;have n0_:=Aside0.mk (yP (by repeat (first|(with_reducible first|exact HB.out|apply yA|apply yB|apply yC)|exact HB.out)) hb);have n1_:=Aside0.mk (hbox);have n2_:=Aside0.mk ((by rw [hg];exact (yQ (by repeat (first|(with_reducible first|exact HB.out|apply yA|apply yB|apply yC)|exact HB.out))):w.heap.size≤gb443));have n3_:=Aside0.mk ((by rw [hg];exact (yQ (by repeat (first|(with_reducible first|exact HB.out|apply yA|apply yB|apply yC)|exact HB.out))):w.heap.size≤gb443));clear HB;have HB:=n0_;have BK443:=n1_;have GW443:=n2_;have GE443:=n3_;clear n0_ n1_ n2_ n3_;clear hb hbox hg;have hcz6_0:w5.cell? ⟨gb443,0,none⟩=some (.slice A0_0 l0_0.length c0_0):=(blk_cell BK443.out 0).trans rfl;have hcz6_1:w5.cell? ⟨gb443,1,none⟩=some (.int .i64 a0_1):=(blk_cell BK443.out 1).trans rfl;have hcz6_2:w5.cell? ⟨gb443,2,none⟩=some (.int .i64 a0_2):=(blk_cell BK443.out 2).trans rfl;have hfz6_0:=blk_frozen BK443.out 0;have hfz6_1:=blk_frozen BK443.out 1;have hfz6_2:=blk_frozen BK443.out 2)|((with_reducible refine gate_callee (f:=36) rfl ?_);refine goesL_ (some 6) rfl rfl Try.func36 (by kernel_rfl) rfl #[.agg #[.slice A0_0 l0_0.length c0_0,.int .i64 a0_1,.int .i64 a0_2]] rfl (by (try simp only [List.map_toArray,List.map_cons,List.map_nil]);first|done|rfl|(simp only [List.length_drop,List.length_take];rfl)) ?_;(with_reducible refine (spec_MachIn.calls k _ _ l0_0 a0_1 a0_2 true _ ?side1 ?side2 A2.out).mono ?_);(case side1=>repeat (first|exact (Kd.C_below HR0_0.out HB.out)|(with_reducible refine Kd.C_alloc ?_ _)|(with_reducible refine Kd.C_drewN ?_ _)|(with_reducible refine Kd.C_drew ?_)));(case side2=>exact HC0_0.out);rintro e w7 ⟨rfl,hb⟩;refine ⟨_,rfl,?_⟩;have n0_:=Aside0.mk (blk_below (g:=gb443) (o:=.cells #[.slice A0_0 l0_0.length c0_0,.int .i64 a0_1,.int .i64 a0_2] 31 (0,0)) (by (with_reducible repeat (first|refine yE ?_ _|refine yF ?_|refine yG ?_ _));exact BK443.out) hb);have n1_:=Aside0.mk (yP (by repeat (first|(with_reducible first|exact HB.out|apply yA|apply yB|apply yC|refine yD ?_ GE443.out)|exact HB.out)) hb);clear BK443;clear HB;have BK443:=n0_;have HB:=n1_;clear n0_ n1_;(try clear hb);(try clear hb2);(try clear hk);(try clear hi);have hcz8_0:w7.cell? ⟨gb443,0,none⟩=some (.slice A0_0 l0_0.length c0_0):=(blk_cell BK443.out 0).trans rfl;have hcz8_1:w7.cell? ⟨gb443,1,none⟩=some (.int .i64 a0_1):=(blk_cell BK443.out 1).trans rfl;have hcz8_2:w7.cell? ⟨gb443,2,none⟩=some (.int .i64 a0_2):=(blk_cell BK443.out 2).trans rfl;have hfz8_0:=blk_frozen BK443.out 0;have hfz8_1:=blk_frozen BK443.out 1;have hfz8_2:=blk_frozen BK443.out 2)|((with_reducible refine gate_callee (f:=37) rfl ?_);refine goesL_ (some 9) rfl rfl Try.func37 (by kernel_rfl) rfl #[.agg #[.slice A0_0 l0_0.length c0_0,.int .i64 a0_1,.int .i64 a0_2]] rfl (by (try simp only [List.map_toArray,List.map_cons,List.map_nil]);first|done|rfl|(simp only [List.length_drop,List.length_take];rfl)) ?_;(with_reducible refine (spec_l6mSet.calls k _ _ l0_0 a0_1 a0_2 t445 t448 _ ?side1 ?side2 A4.out).mono ?_);(case side1=>repeat (first|exact (Kd.C_below HR0_0.out HB.out)|(with_reducible refine Kd.C_alloc ?_ _)|(with_reducible refine Kd.C_drewN ?_ _)|(with_reducible refine Kd.C_drew ?_)));(case side2=>exact HC0_0.out);rintro e w9 ⟨v446,v449,rfl,ho0,ho1,hb⟩;refine ⟨_,rfl,?_⟩;have n0_:=Aside0.mk (Kd.V_lower (Kd.V_mono (ok':=fun k_=>k_≠gb443) ho0 (fun k_ hk_=>(Kd.freshB (g:=gb443) (o:=.cells #[.slice A0_0 l0_0.length c0_0,.int .i64 a0_1,.int .i64 a0_2] 31 (0,0)) (by (with_reducible repeat (first|refine yE ?_ _|refine yF ?_|refine yG ?_ _));exact BK443.out) k_ hk_))) (yQ (by repeat (first|(with_reducible first|exact HB.out|apply yA|apply yB|apply yC|refine yD ?_ GE443.out)|exact HB.out))));have n1_:=Aside0.mk (Kd.V_lower (Kd.V_mono (ok':=fun k_=>k_≠gb443) ho1 (fun k_ hk_=>(Kd.freshB (g:=gb443) (o:=.cells #[.slice A0_0 l0_0.length c0_0,.int .i64 a0_1,.int .i64 a0_2] 31 (0,0)) (by (with_reducible repeat (first|refine yE ?_ _|refine yF ?_|refine yG ?_ _));exact BK443.out) k_ hk_))) (yQ (by repeat (first|(with_reducible first|exact HB.out|apply yA|apply yB|apply yC|refine yD ?_ GE443.out)|exact HB.out))));have n2_:=Aside0.mk (blk_below (g:=gb443) (o:=.cells #[.slice A0_0 l0_0.length c0_0,.int .i64 a0_1,.int .i64 a0_2] 31 (0,0)) (by (with_reducible repeat (first|refine yE ?_ _|refine yF ?_|refine yG ?_ _));exact BK443.out) hb);have n3_:=Aside0.mk (yP (by repeat (first|(with_reducible first|exact HB.out|apply yA|apply yB|apply yC|refine yD ?_ GE443.out)|exact HB.out)) hb);clear BK443;clear HB;have HO447:=n0_;have HO450:=n1_;have BK443:=n2_;have HB:=n3_;clear n0_ n1_ n2_ n3_;(try clear hb);(try clear hb2);(try clear hk);(try clear hi);(try clear ho0);(try clear ho1))|((with_reducible refine gate_dst (N:=4) rfl ?_);refine box_event ?hg (N:=4) ?hd (cs:=#[.slice none 0 0,.slice none 0 0]) (t:=50) ?hr ?_;(case hd=>rfl);(case hg=>rfl);(case hr=>first|(go_simp;done)|(go_simp;rfl));intro gb451 hg w10 hbox hb;have n0_:=Aside0.mk (Kd.V_below (Kd.V_elderB (by (with_reducible repeat (first|apply Kd.V_alloc|apply Kd.V_drewN|apply Kd.V_drew));exact HO447.out) gb451 (Nat.le_of_eq hg.symm)) hb);have n1_:=Aside0.mk (Kd.V_below (Kd.V_elderB (by (with_reducible repeat (first|apply Kd.V_alloc|apply Kd.V_drewN|apply Kd.V_drew));exact HO450.out) gb451 (Nat.le_of_eq hg.symm)) hb);have n2_:=Aside0.mk (blk_below (g:=gb443) (o:=.cells #[.slice A0_0 l0_0.length c0_0,.int .i64 a0_1,.int .i64 a0_2] 31 (0,0)) (by (with_reducible repeat (first|refine yE ?_ _|refine yF ?_|refine yG ?_ _));exact BK443.out) hb);have n3_:=Aside0.mk (yP (by repeat (first|(with_reducible first|exact HB.out|apply yA|apply yB|apply yC|refine yD ?_ GE443.out)|exact HB.out)) hb);have n4_:=Aside0.mk (hbox);have n5_:=Aside0.mk ((by rw [hg];exact (yQ (by repeat (first|(with_reducible first|exact HB.out|apply yA|apply yB|apply yC|refine yD ?_ GE443.out)|exact HB.out))):w.heap.size≤gb451));have n6_:=Aside0.mk ((by rw [hg];exact (yQ (by repeat (first|(with_reducible first|exact HB.out|apply yA|apply yB|apply yC|refine yD ?_ GE443.out)|exact HB.out))):w.heap.size≤gb451));have n7_:=Aside0.mk ((by rw [hg];exact Nat.ne_of_lt (blk_lt (g:=gb443) (o:=.cells #[.slice A0_0 l0_0.length c0_0,.int .i64 a0_1,.int .i64 a0_2] 31 (0,0)) (by (with_reducible repeat (first|refine yE ?_ _|refine yF ?_|refine yG ?_ _));exact BK443.out)):gb443≠gb451));have n8_:=Aside0.mk ((by rw [hg];exact Nat.ne_of_gt (blk_lt (g:=gb443) (o:=.cells #[.slice A0_0 l0_0.length c0_0,.int .i64 a0_1,.int .i64 a0_2] 31 (0,0)) (by (with_reducible repeat (first|refine yE ?_ _|refine yF ?_|refine yG ?_ _));exact BK443.out)):gb451≠gb443));clear HO447;clear HO450;clear BK443;clear HB;have HO447:=n0_;have HO450:=n1_;have BK443:=n2_;have HB:=n3_;have BK451:=n4_;have GW451:=n5_;have GE451:=n6_;have NB443_451:=n7_;have NB451_443:=n8_;clear n0_ n1_ n2_ n3_ n4_ n5_ n6_ n7_ n8_;clear hb hbox hg;obtain ⟨Ao11,co11,eo11⟩:=Kd.V_slice HO447.out;subst eo11;have hnb12:=NB451_443.out;have hnc12:=NB443_451.out;have hcz13_0:w10.cell? ⟨gb451,0,none⟩=some (.slice none 0 0):=(blk_cell BK451.out 0).trans rfl;have hcz13_1:w10.cell? ⟨gb451,1,none⟩=some (.slice none 0 0):=(blk_cell BK451.out 1).trans rfl;have hfz13_0:=blk_frozen BK451.out 0;have hfz13_1:=blk_frozen BK451.out 1;obtain ⟨Ao14,co14,eo14⟩:=Kd.V_slice HO450.out;subst eo14))
  go_ret2
  exact ⟨by first|rfl|(simp [errW_none,errW_some]<;>rfl)|(simp [*,errW_none,errW_some]<;>rfl)|(simp [errW_none,errW_some];exact ⟨rfl,rfl⟩),by repeat (first|(with_reducible first|exact HB.out|apply yA|apply yB|apply yC|refine yD ?_ GE443.out|refine yD ?_ GE451.out)|exact HB.out)⟩
 ·replace c3:=Bool.eq_false_iff.mpr c3
  subst c3
  have H1:(some (0,false))=some (r1,r2):=by rw [if_neg (show ¬ (false=true) by decide)] at H;exact H
  clear H
  have H:=H1
  clear H1
  simp only [Option.some.injEq,Prod.mk.injEq] at H
  obtain ⟨rfl,rfl⟩:=H
  go_enter Try.func20,Try.ntmps20
  go_wp2_with (first|((with_reducible refine gate_dst (N:=1) rfl ?_);refine box_event ?hg (N:=1) ?hd (cs:=#[.slice A0_0 l0_0.length c0_0,.int .i64 a0_1,.int .i64 a0_2]) (t:=31) ?hr ?_;(case hd=>rfl);(case hg=>rfl);(case hr=>first|(go_simp;done)|(go_simp;rfl));intro gb443 hg w15 hbox hb;have n0_:=Aside0.mk (yP (by repeat (first|(with_reducible first|exact HB.out|apply yA|apply yB|apply yC)|exact HB.out)) hb);have n1_:=Aside0.mk (hbox);have n2_:=Aside0.mk ((by rw [hg];exact (yQ (by repeat (first|(with_reducible first|exact HB.out|apply yA|apply yB|apply yC)|exact HB.out))):w.heap.size≤gb443));have n3_:=Aside0.mk ((by rw [hg];exact (yQ (by repeat (first|(with_reducible first|exact HB.out|apply yA|apply yB|apply yC)|exact HB.out))):w.heap.size≤gb443));clear HB;have HB:=n0_;have BK443:=n1_;have GW443:=n2_;have GE443:=n3_;clear n0_ n1_ n2_ n3_;clear hb hbox hg;have hcz16_0:w15.cell? ⟨gb443,0,none⟩=some (.slice A0_0 l0_0.length c0_0):=(blk_cell BK443.out 0).trans rfl;have hcz16_1:w15.cell? ⟨gb443,1,none⟩=some (.int .i64 a0_1):=(blk_cell BK443.out 1).trans rfl;have hcz16_2:w15.cell? ⟨gb443,2,none⟩=some (.int .i64 a0_2):=(blk_cell BK443.out 2).trans rfl;have hfz16_0:=blk_frozen BK443.out 0;have hfz16_1:=blk_frozen BK443.out 1;have hfz16_2:=blk_frozen BK443.out 2)|((with_reducible refine gate_callee (f:=36) rfl ?_);refine goesL_ (some 6) rfl rfl Try.func36 (by kernel_rfl) rfl #[.agg #[.slice A0_0 l0_0.length c0_0,.int .i64 a0_1,.int .i64 a0_2]] rfl (by (try simp only [List.map_toArray,List.map_cons,List.map_nil]);first|done|rfl|(simp only [List.length_drop,List.length_take];rfl)) ?_;(with_reducible refine (spec_MachIn.calls k _ _ l0_0 a0_1 a0_2 false _ ?side1 ?side2 A2.out).mono ?_);(case side1=>repeat (first|exact (Kd.C_below HR0_0.out HB.out)|(with_reducible refine Kd.C_alloc ?_ _)|(with_reducible refine Kd.C_drewN ?_ _)|(with_reducible refine Kd.C_drew ?_)));(case side2=>exact HC0_0.out);rintro e w17 ⟨rfl,hb⟩;refine ⟨_,rfl,?_⟩;have n0_:=Aside0.mk (blk_below (g:=gb443) (o:=.cells #[.slice A0_0 l0_0.length c0_0,.int .i64 a0_1,.int .i64 a0_2] 31 (0,0)) (by (with_reducible repeat (first|refine yE ?_ _|refine yF ?_|refine yG ?_ _));exact BK443.out) hb);have n1_:=Aside0.mk (yP (by repeat (first|(with_reducible first|exact HB.out|apply yA|apply yB|apply yC|refine yD ?_ GE443.out)|exact HB.out)) hb);clear BK443;clear HB;have BK443:=n0_;have HB:=n1_;clear n0_ n1_;(try clear hb);(try clear hb2);(try clear hk);(try clear hi)))
  go_ret2
  exact ⟨by first|rfl|(simp [errW_none,errW_some]<;>rfl)|(simp [*,errW_none,errW_some]<;>rfl)|(simp [errW_none,errW_some];exact ⟨rfl,rfl⟩),by repeat (first|(with_reducible first|exact HB.out|apply yA|apply yB|apply yC|refine yD ?_ GE443.out)|exact HB.out)⟩

end Go.Proofs.Ytgheopbdmijlkaa.P

namespace Go.Proofs.Ytgheopbdmijlkaa.P
open Go.RowKit Go.Proofs.YtgheopbdmijlkaaW.PrintWords Go.Proofs.YtgheopbdmijlkaaW.PrintLast Go.Proofs.YtgheopbdmijlkaaW.PrintMore
attribute [local go_sem] max2_int min2_int max_two min_two max_three min_three max_four min_four   -- for this text's walks alone
set_option linter.unusedVariables false
set_option linter.unusedSimpArgs false

/-! ### stringslite_HasSuffix: function 83 -/
def stringslite_HasSuffix.f (a0:ByteArray) (a1:ByteArray):Option (Bool):=if (a0.size:Int) ≥ (a1.size:Int) then (if 0≤(wrap64 ((a0.size:Int) - (a1.size:Int))) then (if (wrap64 ((a0.size:Int) - (a1.size:Int)))≤(a0.size:Int) then (some ((a0.extract ((wrap64 ((a0.size:Int) - (a1.size:Int))):Int).toNat a0.size).toList == a1.toList)) else (none)) else (none)) else (some false)
set_option maxHeartbeats 8000000 in
set_option maxRecDepth 100000 in
theorem stringslite_HasSuffix.calls (a0:ByteArray) (a1:ByteArray) (r:Bool) (w:World) (h:stringslite_HasSuffix.f a0 a1=some r) :
  Calls Try.prog 83 #[.string a0,.string a1] w fun e w'=>e=.returned (.bool r)∧Drawn0 w w':=by
 have H:(if (a0.size:Int) ≥ (a1.size:Int) then (if 0≤(wrap64 ((a0.size:Int) - (a1.size:Int))) then (if (wrap64 ((a0.size:Int) - (a1.size:Int)))≤(a0.size:Int) then (some ((a0.extract ((wrap64 ((a0.size:Int) - (a1.size:Int))):Int).toNat a0.size).toList == a1.toList)) else (none)) else (none)) else (some false))=some r:=h
 clear h
 by_cases c3:(a0.size:Int) ≥ (a1.size:Int)
 ·rw [if_pos c3] at H
  have c3b0:decide ((a1.size:Int)≤(a0.size:Int))=true:=decide_eq_true c3
  have c3b1:decide (a1.size≤a0.size)=true:=decide_eq_true (Int.ofNat_le.mp c3)
  clear c3
  obtain ⟨ji4,hji4⟩:∃ j_:Int,(wrap64 ((a0.size:Int) - (a1.size:Int)))=j_:=⟨_,rfl⟩
  replace H:(if 0≤(ji4) then (if (ji4)≤(a0.size:Int) then (some ((a0.extract ((ji4):Int).toNat a0.size).toList == a1.toList)) else (none)) else (none))=some r:=by first|(rw [hji4] at H;exact H)|(simp only [hji4] at H ⊢;exact H)
  have hji4w:(IntKind.i64.wrap ((a0.size:Int) - (a1.size:Int)))=ji4:=(i64_w _).trans hji4
  by_cases c5:0≤(ji4)
  ·rw [if_pos c5] at H
   have c5b0:=eq_true c5
   have c5b1:decide (0≤(ji4))=true:=decide_eq_true c5
   clear c5
   by_cases c6:(ji4)≤(a0.size:Int)
   ·rw [if_pos c6] at H
    have c6b0:=eq_true c6
    have c6b1:decide ((ji4)≤(a0.size:Int))=true:=decide_eq_true c6
    clear c6
    obtain rfl:=Option.some.inj H
    go_enter Try.func83,Try.ntmps83
    go_wp2
    go_ret
    exact ⟨by first|rfl|(simp;done)|(simp only [← hji4]<;>(first|rfl|simp))|(simp [*];done),by repeat (first|exact Drawn0.refl _|apply Drawn0.step)⟩
   ·rw [if_neg c6] at H
    exact absurd H (by simp)
  ·rw [if_neg c5] at H
   exact absurd H (by simp)
 ·rw [if_neg c3] at H
  have c3b0:decide ((a1.size:Int)≤(a0.size:Int))=false:=decide_eq_false c3
  have c3b1:decide (a1.size≤a0.size)=false:=decide_eq_false (fun h=>c3 (Int.ofNat_le.mpr h))
  clear c3
  obtain rfl:=Option.some.inj H
  go_enter Try.func83,Try.ntmps83
  go_wp2
  go_ret
  exact ⟨by first|rfl|(simp;done)|(simp [*];done),by repeat (first|exact Drawn0.refl _|apply Drawn0.step)⟩

end Go.Proofs.Ytgheopbdmijlkaa.P

namespace Go.Proofs.Ytgheopbdmijlkaa.P
open Go.RowKit Go.Proofs.YtgheopbdmijlkaaW.PrintWords Go.Proofs.YtgheopbdmijlkaaW.PrintLast Go.Proofs.YtgheopbdmijlkaaW.PrintMore
attribute [local go_sem] max2_int min2_int max_two min_two max_three min_three max_four min_four   -- for this text's walks alone
set_option linter.unusedVariables false
set_option linter.unusedSimpArgs false

/-! ### stringslite_CutSuffix: function 72 -/
def stringslite_CutSuffix.f (a0:ByteArray) (a1:ByteArray):Option (ByteArray × Bool):=(stringslite_HasSuffix.f a0 a1).bind fun t247=>(if t247=true then (if 0≤(wrap64 ((a0.size:Int) - (a1.size:Int))) then (if (wrap64 ((a0.size:Int) - (a1.size:Int)))≤(a0.size:Int) then (some (a0.extract 0 ((wrap64 ((a0.size:Int) - (a1.size:Int))):Int).toNat,true)) else (none)) else (none)) else (some (a0,false)))
set_option maxHeartbeats 8000000 in
set_option maxRecDepth 100000 in
theorem stringslite_CutSuffix.calls (a0:ByteArray) (a1:ByteArray) (r1:ByteArray) (r2:Bool) (w:World) (h:stringslite_CutSuffix.f a0 a1=some (r1,r2)) :
  Calls Try.prog 72 #[.string a0,.string a1] w fun e w'=>e=.returned (.tuple #[.string r1,.bool r2])∧Drawn0 w w':=by
 have H:((stringslite_HasSuffix.f a0 a1).bind fun t247=>(if t247=true then (if 0≤(wrap64 ((a0.size:Int) - (a1.size:Int))) then (if (wrap64 ((a0.size:Int) - (a1.size:Int)))≤(a0.size:Int) then (some (a0.extract 0 ((wrap64 ((a0.size:Int) - (a1.size:Int))):Int).toNat,true)) else (none)) else (none)) else (some (a0,false))))=some (r1,r2):=h
 clear h
 replace H:=Option.bind_eq_some_iff.mp H
 obtain ⟨t247,A30,H⟩:=H
 replace H:(if t247=true then (if 0≤(wrap64 ((a0.size:Int) - (a1.size:Int))) then (if (wrap64 ((a0.size:Int) - (a1.size:Int)))≤(a0.size:Int) then (some (a0.extract 0 ((wrap64 ((a0.size:Int) - (a1.size:Int))):Int).toNat,true)) else (none)) else (none)) else (some (a0,false)))=some (r1,r2):=H
 have A3:=Aside0.mk A30
 clear A30
 by_cases c4:t247=true
 ·subst c4
  have H1:(if 0≤(wrap64 ((a0.size:Int) - (a1.size:Int))) then (if (wrap64 ((a0.size:Int) - (a1.size:Int)))≤(a0.size:Int) then (some (a0.extract 0 ((wrap64 ((a0.size:Int) - (a1.size:Int))):Int).toNat,true)) else (none)) else (none))=some (r1,r2):=by rw [if_pos rfl] at H;exact H
  clear H
  have H:=H1
  clear H1
  obtain ⟨ji5,hji5⟩:∃ j_:Int,(wrap64 ((a0.size:Int) - (a1.size:Int)))=j_:=⟨_,rfl⟩
  replace H:(if 0≤(ji5) then (if (ji5)≤(a0.size:Int) then (some (a0.extract 0 ((ji5):Int).toNat,true)) else (none)) else (none))=some (r1,r2):=by first|(rw [hji5] at H;exact H)|(simp only [hji5] at H ⊢;exact H)
  (try rw [hji5] at A3)
  have hji5w:(IntKind.i64.wrap ((a0.size:Int) - (a1.size:Int)))=ji5:=(i64_w _).trans hji5
  by_cases c6:0≤(ji5)
  ·rw [if_pos c6] at H
   have c6b0:=eq_true c6
   have c6b1:decide (0≤(ji5))=true:=decide_eq_true c6
   clear c6
   by_cases c7:(ji5)≤(a0.size:Int)
   ·rw [if_pos c7] at H
    have c7b0:=eq_true c7
    have c7b1:decide ((ji5)≤(a0.size:Int))=true:=decide_eq_true c7
    clear c7
    simp only [Option.some.injEq,Prod.mk.injEq] at H
    obtain ⟨rfl,rfl⟩:=H
    go_enter Try.func72,Try.ntmps72
    go_wp2_with (first|((with_reducible refine gate_callee (f:=83) rfl ?_);refine goesL_ (some 8) rfl rfl Try.func83 (by kernel_rfl) rfl #[.string a0,.string a1] rfl (by (try simp only [List.map_toArray,List.map_cons,List.map_nil]);first|done|rfl|(simp only [List.length_drop,List.length_take];rfl)) ?_;(with_reducible refine (stringslite_HasSuffix.calls a0 a1 true _ A3.out).mono ?_);rintro e w' ⟨rfl,⟨nd,rfl⟩⟩;refine ⟨_,rfl,?_⟩))
    go_ret2
    exact ⟨by first|rfl|(simp;done)|(simp only [← hji5]<;>(first|rfl|simp))|(simp [*];done),by repeat (first|exact Drawn0.refl _|apply Drawn0.step)⟩
   ·rw [if_neg c7] at H
    exact absurd H (by simp)
  ·rw [if_neg c6] at H
   exact absurd H (by simp)
 ·replace c4:=Bool.eq_false_iff.mpr c4
  subst c4
  have H1:(some (a0,false))=some (r1,r2):=by rw [if_neg (show ¬ (false=true) by decide)] at H;exact H
  clear H
  have H:=H1
  clear H1
  simp only [Option.some.injEq,Prod.mk.injEq] at H
  obtain ⟨rfl,rfl⟩:=H
  go_enter Try.func72,Try.ntmps72
  go_wp2_with (first|((with_reducible refine gate_callee (f:=83) rfl ?_);refine goesL_ (some 8) rfl rfl Try.func83 (by kernel_rfl) rfl #[.string a0,.string a1] rfl (by (try simp only [List.map_toArray,List.map_cons,List.map_nil]);first|done|rfl|(simp only [List.length_drop,List.length_take];rfl)) ?_;(with_reducible refine (stringslite_HasSuffix.calls a0 a1 false _ A3.out).mono ?_);rintro e w' ⟨rfl,⟨nd,rfl⟩⟩;refine ⟨_,rfl,?_⟩))
  go_ret2
  exact ⟨by first|rfl|(simp;done)|(simp [*];done),by repeat (first|exact Drawn0.refl _|apply Drawn0.step)⟩

end Go.Proofs.Ytgheopbdmijlkaa.P

namespace Go.Proofs.Ytgheopbdmijlkaa.P
open Go.RowKit Go.Proofs.YtgheopbdmijlkaaW.PrintWords Go.Proofs.YtgheopbdmijlkaaW.PrintLast Go.Proofs.YtgheopbdmijlkaaW.PrintMore
attribute [local go_sem] max2_int min2_int max_two min_two max_three min_three max_four min_four   -- for this text's walks alone
set_option linter.unusedVariables false
set_option linter.unusedSimpArgs false

/-! ### strings_CutSuffix: function 54 -/
def strings_CutSuffix.f (a0:ByteArray) (a1:ByteArray):Option (ByteArray × Bool):=(stringslite_CutSuffix.f a0 a1).bind fun bt248=>(some (bt248.1,bt248.2))
set_option maxHeartbeats 8000000 in
set_option maxRecDepth 100000 in
theorem strings_CutSuffix.calls (a0:ByteArray) (a1:ByteArray) (r1:ByteArray) (r2:Bool) (w:World) (h:strings_CutSuffix.f a0 a1=some (r1,r2)) :
  Calls Try.prog 54 #[.string a0,.string a1] w fun e w'=>e=.returned (.tuple #[.string r1,.bool r2])∧Drawn0 w w':=by
 have H:((stringslite_CutSuffix.f a0 a1).bind fun bt248=>(some (bt248.1,bt248.2)))=some (r1,r2):=h
 clear h
 replace H:=Option.bind_eq_some_iff.mp H
 obtain ⟨⟨t248,t249⟩,A30,H⟩:=H
 replace H:(some (t248,t249))=some (r1,r2):=H
 have A3:=Aside0.mk A30
 clear A30
 simp only [Option.some.injEq,Prod.mk.injEq] at H
 obtain ⟨rfl,rfl⟩:=H
 go_enter Try.func54,Try.ntmps54
 go_wp2_with (first|((with_reducible refine gate_callee (f:=72) rfl ?_);refine goesL_ (some 8) rfl rfl Try.func72 (by kernel_rfl) rfl #[.string a0,.string a1] rfl (by (try simp only [List.map_toArray,List.map_cons,List.map_nil]);first|done|rfl|(simp only [List.length_drop,List.length_take];rfl)) ?_;(with_reducible refine (stringslite_CutSuffix.calls a0 a1 t248 t249 _ A3.out).mono ?_);rintro e w' ⟨rfl,⟨nd,rfl⟩⟩;refine ⟨_,rfl,?_⟩))
 go_ret2
 exact ⟨by first|rfl|(simp;done)|(simp [*];done),by repeat (first|exact Drawn0.refl _|apply Drawn0.step)⟩

end Go.Proofs.Ytgheopbdmijlkaa.P

-- The plain words of texts of signs.
namespace Go.Proofs.Ytgheopbdmijlkaa.P
open Go.RowKit Go.Proofs.YtgheopbdmijlkaaW.PrintWords Go.Proofs.YtgheopbdmijlkaaW.PrintLast Go.Proofs.YtgheopbdmijlkaaW.PrintMore
set_option linter.unusedVariables false
set_option linter.unusedSimpArgs false
theorem w64 {x : Int} (h0 : -9223372036854775808 ≤ x) (h1 : x ≤ 9223372036854775807) : wrap64 x = x := by unfold wrap64; omega
theorem wsucc {i : Nat} (h : i ≤ 4611686018427387904) : wrap64 ((i : Int) + 1) = ((i + 1 : Nat) : Int) := by rw [w64 (by omega) (by omega)]; omega
theorem wadd {i j : Nat} (h : i + j ≤ 4611686018427387904) : wrap64 ((i : Int) + (j : Int)) = ((i + j : Nat) : Int) := by rw [w64 (by omega) (by omega)]; omega
theorem wsub {i j : Nat} (h : j ≤ i) (h2 : i ≤ 4611686018427387904) : wrap64 ((i : Int) - (j : Int)) = ((i - j : Nat) : Int) := by rw [w64 (by omega) (by omega)]; omega
theorem wpred {i : Nat} (h : 1 ≤ i) (h2 : i ≤ 4611686018427387904) : wrap64 ((i : Int) - 1) = ((i - 1 : Nat) : Int) := by rw [w64 (by omega) (by omega)]; omega
theorem wmul {i j : Nat} (h : i * j ≤ 4611686018427387904) : wrap64 ((i : Int) * (j : Int)) = ((i * j : Nat) : Int) := by
  have e : (i : Int) * (j : Int) = ((i * j : Nat) : Int) := (Int.natCast_mul i j).symm
  rw [e, w64 (by omega) (by omega)]
theorem tmod_nat (i j : Nat) : Int.tmod (i : Int) (j : Int) = ((i % j : Nat) : Int) := by rw [Int.tmod_eq_emod_of_nonneg (by omega)]; rfl
theorem tdiv_nat (i j : Nat) : Int.tdiv (i : Int) (j : Int) = ((i / j : Nat) : Int) := by rw [Int.tdiv_eq_ediv_of_nonneg (by omega)]; rfl
theorem rdOf_nat (l : List Bool) (i : Nat) : rdOf false l (i : Int) = l.getD i false := by simp [rdOf]
/-- The signs that a text of bytes tells. -/
def bitsL : List UInt8 → Option (List Bool)
  | [] => some []
  | c :: cs => if c = 48 then (bitsL cs).map (false :: ·) else if c = 49 then (bitsL cs).map (true :: ·) else none

def chrs (s : ByteArray) : List UInt8 := s.data.toList
theorem chrs_length (s : ByteArray) : (chrs s).length = s.size := by simp [chrs]
theorem bt_chr (s : ByteArray) {i : Nat} (h : i < s.size) : bt s (i : Int) = (((chrs s)[i]'(by rw [chrs_length]; exact h)).toNat : Int) := by
  unfold bt
  rw [dif_pos (by simpa using h)]
  simp [chrs, ByteArray.getElem_eq_getElem_data]
theorem u8_eq {c : UInt8} {n : Nat} (hn : n < 256) : ((c.toNat : Int) = (n : Int)) ↔ c = UInt8.ofNat n := by
  constructor
  · intro h
    apply UInt8.toNat_inj.1
    rw [UInt8.toNat_ofNat_of_lt' hn]; omega
  · rintro rfl
    rw [UInt8.toNat_ofNat_of_lt' hn]

theorem chrs_extract (s : ByteArray) (a b : Nat) : chrs (s.extract a b) = ((chrs s).take b).drop a := by
  simp [chrs, ByteArray.data_extract, List.drop_take]
theorem chrs_inj {s t : ByteArray} (h : chrs s = chrs t) : s = t := by
  cases s; cases t; simp only [chrs] at h; congr 1; exact Array.toList_inj.1 h
theorem bt_eq (s : ByteArray) {i : Nat} (h : i < s.size) (n : Nat) (hn : n < 256) : (bt s (i : Int) = (n : Int)) ↔ (chrs s)[i]'(by rw [chrs_length]; exact h) = UInt8.ofNat n := by
  rw [bt_chr s h]; exact u8_eq hn
theorem bt_eq' (s : ByteArray) {i : Nat} (h : i < s.size) (n : Nat) (hn : n < 256) : (bt s (i : Int) = (n : Int)) ↔ (chrs s)[i]? = some (UInt8.ofNat n) := by
  rw [bt_eq s h n hn, List.getElem?_eq_getElem (by rw [chrs_length]; exact h)]; simp

/-- A sign as a byte. -/
def sgn (b : Bool) : UInt8 := if b then 49 else 48
/-- The text of a tail and a ring. -/
def textOf (t r : List Bool) : ByteArray := ⟨(t.map sgn ++ [40] ++ r.map sgn ++ [41]).toArray⟩
theorem chrs_textOf (t r : List Bool) : chrs (textOf t r) = t.map sgn ++ [40] ++ r.map sgn ++ [41] := rfl
def sgnI (b : Bool) : Int := if b then 49 else 48
theorem drop_getD {l : List Bool} {i : Nat} (h : i < l.length) : l.drop i = l.getD i false :: l.drop (i + 1) := by
  rw [List.drop_eq_getElem_cons h]; simp [List.getD_eq_getElem?_getD, h]
theorem drawn0_below {w w1 : World} (h : Drawn0 w w1) : Below w.heap.size w w1 := by
  obtain ⟨q, rfl⟩ := h
  exact pw_below_drewN (Below.refl _ _) q

end Go.Proofs.Ytgheopbdmijlkaa.P

-- impl.told writes signs as a text (a strings.Builder of its own).
namespace Go.Proofs.Ytgheopbdmijlkaa.P
open Go.RowKit Go.Proofs.YtgheopbdmijlkaaW.PrintWords Go.Proofs.YtgheopbdmijlkaaW.PrintLast Go.Proofs.YtgheopbdmijlkaaW.PrintMore
set_option linter.unusedVariables false
set_option linter.unusedSimpArgs false

def impl_told.f (l0 : List Bool) : Option ByteArray := if l0.length ≤ 70368744177664 then some ⟨(l0.map sgn).toArray⟩ else none

theorem builder_info : (Try.prog.info? 93).map (·.size) = some 2 := by kernel_rfl
theorem builder_lies : liesAt Try.prog Try.prog.depth 93 (2 / Try.prog.cellsOf 93) 0 93 1 = true := by kernel_rfl

set_option maxHeartbeats 4000000 in
set_option maxRecDepth 100000 in
theorem builder_copyCheck_used (b : Nat) (w : World) (h0 : w.cell? ⟨b, 0, none⟩ = some (.pointer (some ⟨b, 0, none⟩))) :
    Calls Try.prog 91 #[.pointer (some ⟨b, 0, none⟩)] w fun e w' => e = .returned (.tuple #[]) ∧ w' = w := by
  obtain ⟨j, hj, _⟩ := Option.map_eq_some_iff.1 builder_info
  go_enter Try.func91, Try.ntmps91
  go_wp2
  rw [Lib.run_neq_ptr_same w _ Try.underlying91 hj]
  go_wp2
  go_end0
  exact ⟨rfl, rfl⟩

set_option maxHeartbeats 4000000 in
set_option maxRecDepth 100000 in
theorem builder_copyCheck_fresh (b : Nat) (w : World) (h0 : w.cell? ⟨b, 0, none⟩ = some (.pointer none)) (hsh : w.shape? b = some (93, 2)) (hfz : w.frozen? ⟨b, 0, none⟩ = false) :
    Calls Try.prog 91 #[.pointer (some ⟨b, 0, none⟩)] w fun e w' => e = .returned (.tuple #[]) ∧ w' = w.setCell ⟨b, 0, none⟩ (.pointer (some ⟨b, 0, none⟩)) := by
  obtain ⟨j, hj, hjs⟩ := Option.map_eq_some_iff.1 builder_info
  go_enter Try.func91, Try.ntmps91
  go_wp2
  rw [Lib.run_to_unsafe w ⟨b, 0, none⟩ Try.underlying91 Try.underlying104 hj (by rw [hjs]; decide) hsh (Nat.zero_lt_succ 1)]
  simp only [Result.andThen]
  rw [Oper.upon_value]
  go_wp2
  rw [run_callFunc_extern Try.func94 (by kernel_rfl) (by kernel_rfl) (by kernel_rfl) (e := Extern.AbiNoEscape.same) (by kernel_rfl)]
  rw [Lib.run_noEscape]
  simp only [Result.andThen]
  rw [Oper.upon_value]
  go_wp2
  rw [Lib.run_from_unsafe w ⟨b, 0, none⟩ Try.underlying104 Try.underlying91 hj hsh builder_lies]
  simp only [Result.andThen]
  rw [Oper.upon_value]
  go_wp2
  go_end0
  exact ⟨rfl, rfl⟩

theorem builder_copyCheck (B b : Nat) (bs : List Value) (w : World) (h : Lib.IsBuilder 93 5 B b bs w) :
    Calls Try.prog 91 #[.pointer (some ⟨b, 0, none⟩)] w fun e w' => e = .returned (.tuple #[]) ∧ (Lib.BuilderAt 93 5 B b (.pointer (some ⟨b, 0, none⟩)) bs w' ∧ Below B w w') := by
  rcases h with h | h
  · refine (builder_copyCheck_fresh b w h.cell0 h.shape h.frozen0).mono ?_
    rintro e w' ⟨rfl, rfl⟩
    exact ⟨rfl, h.used _, (Below.refl B w).setCell (p := ⟨b, 0, none⟩) h.1 _⟩
  · refine (builder_copyCheck_used b w h.cell0).mono ?_
    rintro e w' ⟨rfl, rfl⟩
    exact ⟨rfl, h, Below.refl B _⟩

theorem byte_info : (Try.prog.info? 5).map (fun i => (i.zero, i.size, i.bytes)) = some (some (.int .u8 0), 1, 1) := by kernel_rfl

set_option maxHeartbeats 4000000 in
set_option maxRecDepth 100000 in
theorem builder_WriteByte (B b : Nat) (bs : List Value) (c : Int) (w : World) (h : Lib.IsBuilder 93 5 B b bs w) (hlen : bs.length + 1 ≤ 140737488355328) (hBw : B ≤ w.heap.size) :
    Calls Try.prog 85 #[.pointer (some ⟨b, 0, none⟩), .int .u8 c] w fun e w' => e = .returned .nilIface ∧ (Lib.BuilderAt 93 5 B b (.pointer (some ⟨b, 0, none⟩)) (bs ++ [.int .u8 c]) w' ∧ Below B w w') := by
  obtain ⟨i0, hi, hz0, hz1, hz2⟩ := info_parts byte_info
  go_enter Try.func85, Try.ntmps85
  go_wp2_with (go_at_call 91; refine (builder_copyCheck B b bs _ h).mono ?_)
  rintro e w1 ⟨rfl, h1, hb1⟩
  obtain ⟨hB, v, hbk, hown, hne⟩ := h1
  have c0 : w1.cell? ⟨b, 0, none⟩ = some (.pointer (some ⟨b, 0, none⟩)) := by rw [Lib.cell_of_heap hbk]; rfl
  have c1 : w1.cell? ⟨b, 1, none⟩ = some v := by rw [Lib.cell_of_heap hbk]; rfl
  go_wp2_with (at_builtin; refine wpList_append_own _ rfl _ _ 83 rfl B 5 i0 (.int .u8 0) 1 1 Try.underlying83 hi hz0 hz1 hz2 rfl (by decide) _ _ _ rfl (hown.alloc _) ⟨w1.heap.size, 0, none⟩ 1 1 [.int .u8 c] rfl rfl ?c1 ?c2 ?c3 ?c4 ?c5 ?_)
  case c1 =>
    intro j u hj
    match j, hj with
    | 0, hj => simp at hj; subst hj; simp [Addr.add]
  case c2 => intro u hu; simp at hu; subst hu; rfl
  case c3 => unfold maxLen; omega
  case c4 => omega
  case c5 => have := hb1.size; simp; omega
  intro v' w2 hown' hgrow _
  have hlt : b < w1.heap.size := by
    rcases Nat.lt_or_ge b w1.heap.size with h' | h'
    · exact h'
    · simp [Array.getElem?_eq_none h'] at hbk
  have hb2 : w2.heap[b]? = some (.cells #[.pointer (some ⟨b, 0, none⟩), v] 93 (0, 0)) := by
    rw [hgrow.block b (by simp; omega) (fun e => hne e.symm), Lib.alloc_old w1 _ b hlt]
    exact hbk
  have d0 : w2.cell? ⟨b, 0, none⟩ = some (.pointer (some ⟨b, 0, none⟩)) := by rw [Lib.cell_of_heap hb2]; rfl
  have d1 : w2.cell? ⟨b, 1, none⟩ = some v := by rw [Lib.cell_of_heap hb2]; rfl
  have f1 : w2.frozen? ⟨b, 1, none⟩ = false := Lib.frozen_of_heap hb2 1
  obtain ⟨g, cap, rfl⟩ : ∃ g cap, v' = .slice (some ⟨g, 0, none⟩) (bs.length + 1) cap := by
    rcases hown'.2 with ⟨_, h0⟩ | ⟨g, cap, cur, hv, _⟩
    · omega
    · exact ⟨g, cap, hv⟩
  go_wp2
  go_ret
  refine ⟨rfl, ?_, ?_⟩
  · exact Lib.BuilderAt.put (T := 93) (e := 5) hB hb2 (bs' := bs ++ [.int .u8 c]) (by simpa using hown') (by decide)
  · exact ((hb1.alloc (by have := hb1.size; omega) _).grown hgrow (by have := hb1.size; simp; omega) (fun k hk => (hown.lt k hk).1)).setCell (p := ⟨b, 1, none⟩) hB _

theorem reads_bool {w : World} {A : Option Addr} {n : Nat} {xs : List Bool} (h : Kd.C Kd.bool w A n xs) (i : Nat) (hi : i < n) : ∃ ad, A = some ad ∧ w.cell? (ad.add i) = some (.bool (xs.getD i false)) := by
  have h2 := Kd.reads_of_C (d := false) (h1 := fun _ => rfl) h
  obtain ⟨ad, e, hc⟩ := h2.2.2 (by omega)
  exact ⟨ad, e, hc i hi⟩

theorem byteCells_sgn (l : List Bool) : Lib.byteCells (l.map sgn) = l.map fun b => Value.int .u8 (if b then 49 else 48) := by
  simp only [Lib.byteCells, List.map_map]
  apply List.map_congr_left
  intro b _
  cases b <;> rfl

theorem take_cells {l : List Bool} {k : Nat} {b : Bool} (h : k < l.length) (hb : l.getD k false = b) : Lib.byteCells ((l.take (k + 1)).map sgn) = Lib.byteCells ((l.take k).map sgn) ++ [.int .u8 (if b then 49 else 48)] := by
  have e : l[k] = b := by rw [← hb, List.getD_eq_getElem?_getD, List.getElem?_eq_getElem h]; rfl
  rw [List.take_succ_eq_append_getElem h, List.map_append, e]
  simp only [Lib.byteCells, List.map_append, List.map_cons, List.map_nil]
  cases b <;> rfl

set_option maxHeartbeats 8000000 in
set_option maxRecDepth 100000 in
theorem impl_told.calls (A0 : Option Addr) (c0 : Nat) (l0 : List Bool) (r : ByteArray) (w : World) (hr0 : Kd.C Kd.bool w A0 l0.length l0) (hc0 : l0.length ≤ c0) (h : impl_told.f l0 = some r) :
    Calls Try.prog 81 #[.slice A0 l0.length c0] w fun e w' => e = .returned (.string r) ∧ Below w.heap.size w w' := by
  have hlen : l0.length ≤ 70368744177664 := by
    unfold impl_told.f at h
    split at h
    · assumption
    · cases h
  have hr : (⟨(l0.map sgn).toArray⟩ : ByteArray) = r := by
    unfold impl_told.f at h
    rw [if_pos hlen] at h
    injection h
  have HR := Aside0.mk hr0
  have HX := Aside0.mk hr
  have HL := Aside0.mk hlen
  clear hr0 h hc0 hr
  go_enter Try.func81, Try.ntmps81
  go_wp2
  go_loopg [8] l0.length (fun gg s8 wr => ∃ k : Nat, k ≤ l0.length ∧ l0.length - k ≤ gg ∧ s8 = .int .i64 k ∧ Aside0 (Lib.IsBuilder 93 5 w.heap.size w.heap.size (Lib.byteCells ((l0.take k).map sgn)) wr) ∧ Aside0 (Below w.heap.size w wr))
  case atStart =>
    refine ⟨0, Nat.zero_le _, by omega, rfl, ⟨.inl ⟨Nat.le_refl _, .slice none 0 0, ?_, ?_, ?_⟩⟩, ⟨below_alloc (Below.refl _ _) _⟩⟩
    · exact heap_alloc_new _ _
    · exact World.ownsRow_nil _ _ _ _
    · simp [Value.ownBlock]
  case round =>
    obtain ⟨k, hk, hgg, rfl, HI, HB⟩ := hrel
    by_cases hlt : k < l0.length
    · obtain ⟨ad, rfl, hcell⟩ := reads_bool (Kd.C_below HR.out HB.out) k hlt
      have hw := builder_WriteByte w.heap.size w.heap.size _ (if l0.getD k false then 49 else 48) wr HI.out (by rw [Lib.byteCells_length]; simp; have := HL.out; omega) HB.out.size
      have hB := HB
      clear HB HI
      cases hv : l0.getD k false with
      | true =>
        rw [hv] at hcell hw
        simp only [if_true] at hw
        have HV := Aside0.mk hv
        clear hv
        go_wp2_with (go_at_call 85; refine hw.mono ?_; rintro e w1 ⟨rfl, hi, hb⟩)
        go_roundg (l0.length - (k + 1))
        case measure => omega
        case rel =>
          refine ⟨k + 1, by omega, by omega, by go_num, ⟨.inr ?_⟩, ⟨hB.out.trans hb⟩⟩
          rw [take_cells hlt HV.out]
          exact hi
      | false =>
        rw [hv] at hcell hw
        simp only [Bool.false_eq_true, if_false] at hw
        have HV := Aside0.mk hv
        clear hv
        go_wp2_with (go_at_call 85; refine hw.mono ?_; rintro e w1 ⟨rfl, hi, hb⟩)
        go_roundg (l0.length - (k + 1))
        case measure => omega
        case rel =>
          refine ⟨k + 1, by omega, by omega, by go_num, ⟨.inr ?_⟩, ⟨hB.out.trans hb⟩⟩
          rw [take_cells hlt HV.out]
          exact hi
    · have e : l0.take k = l0 := List.take_of_length_le (by omega)
      rw [e] at HI
      have hs := Try.Builder_String_any w.heap.size w.heap.size (l0.map sgn) wr HI.out HB.out.size
      rw [HX.out] at hs
      have hB := HB
      clear HB HI HR e
      go_wp2_with (go_at_call 86; refine hs.mono ?_; rintro e w1 ⟨rfl, hb⟩)
      go_ret
      exact ⟨rfl, hB.out.trans hb⟩
end Go.Proofs.Ytgheopbdmijlkaa.P

-- stringslite.Index at a separator of one byte: the place of that byte.
namespace Go.Proofs.Ytgheopbdmijlkaa.P
open Go.RowKit Go.Proofs.YtgheopbdmijlkaaW.PrintWords Go.Proofs.YtgheopbdmijlkaaW.PrintLast Go.Proofs.YtgheopbdmijlkaaW.PrintMore
set_option linter.unusedVariables false
set_option linter.unusedSimpArgs false

def stringslite_Index.f (a0 a1 : ByteArray) : Option Int := if a1.size = 1 then some (if (chrs a0).findIdx (· == (chrs a1).headD 0) < a0.size then (((chrs a0).findIdx (· == (chrs a1).headD 0) : Nat) : Int) else -1) else none

theorem indexByte_find (c : UInt8) : ∀ l : List UInt8, Lib.indexByte l c = if l.findIdx (· == c) < l.length then ((l.findIdx (· == c) : Nat) : Int) else -1
  | [] => rfl
  | b :: l => by
    simp only [Lib.indexByte, List.findIdx_cons, List.length_cons]
    rw [indexByte_find c l]
    have hle := l.findIdx_le_length (p := (· == c))
    generalize l.findIdx (· == c) = p at hle ⊢
    by_cases h : (b == c) = true
    · simp [h]
    · simp only [h, Bool.false_eq_true, if_false, cond_false]
      by_cases h2 : p < l.length
      · rw [if_pos h2, if_neg (by simp), if_pos (by omega)]; omega
      · rw [if_neg h2, if_pos (by decide), if_neg (by omega)]

set_option maxHeartbeats 4000000 in
set_option maxRecDepth 100000 in
theorem stringslite_IndexByte.calls (s : ByteArray) (c : Int) (w : World) :
    Calls Try.prog 87 #[.string s, .int .u8 c] w fun e w' => e = .returned (.int .i64 (Lib.indexByte s.data.toList c.toNat.toUInt8)) ∧ w' = w := by
  go_enter Try.func87, Try.ntmps87
  go_wp2
  rw [run_callFunc_extern Try.func92 (by kernel_rfl) (by kernel_rfl) (by kernel_rfl) (e := Extern.BytealgIndexByte.indexByte) (by kernel_rfl), Lib.run_indexByteString]
  simp only [Result.andThen]
  rw [Oper.upon_value]
  go_wp2
  go_ret
  exact ⟨rfl, rfl⟩

set_option maxHeartbeats 4000000 in
set_option maxRecDepth 100000 in
theorem stringslite_Index.one (a0 : ByteArray) (c : UInt8) (w : World) :
    Calls Try.prog 82 #[.string a0, .string ⟨#[c]⟩] w fun e w' => e = .returned (.int .i64 (Lib.indexByte a0.data.toList c)) ∧ w' = w := by
  by_cases hc : ([c] == a0.toList) = true
  · go_enter Try.func82, Try.ntmps82
    go_wp2
    go_ret
    refine ⟨?_, rfl⟩
    have e : a0.data.toList = [c] := by rw [← ByteArray.toList_eq]; exact (beq_iff_eq.1 hc).symm
    rw [e]; simp [Lib.indexByte]
  · replace hc : ([c] == a0.toList) = false := by simpa using hc
    go_enter Try.func82, Try.ntmps82
    go_wp2_with (go_at_call 87; refine (stringslite_IndexByte.calls _ _ _).mono ?_; rintro e w' ⟨rfl, rfl⟩)
    go_ret
    exact ⟨by simp; rfl, rfl⟩

theorem stringslite_Index.calls (a0 : ByteArray) (a1 : ByteArray) (r : Int) (w : World) (h : stringslite_Index.f a0 a1 = some r) : Calls Try.prog 82 #[.string a0, .string a1] w fun e w' => e = .returned (.int .i64 r) ∧ Drawn0 w w' := by
  unfold stringslite_Index.f at h
  by_cases h1 : a1.size = 1
  · rw [if_pos h1] at h
    obtain ⟨c, rfl⟩ : ∃ c, a1 = ⟨#[c]⟩ := by
      cases a1 with
      | mk d =>
        have : d.size = 1 := h1
        obtain ⟨c, rfl⟩ := Array.size_eq_one_iff.1 this
        exact ⟨c, rfl⟩
    have e : Lib.indexByte a0.data.toList c = r := by
      rw [indexByte_find]
      injection h
    refine (stringslite_Index.one a0 c w).mono ?_
    rintro e' w' ⟨rfl, rfl⟩
    exact ⟨by rw [e], ⟨0, rfl⟩⟩
  · rw [if_neg h1] at h; cases h
end Go.Proofs.Ytgheopbdmijlkaa.P

namespace Go.Proofs.Ytgheopbdmijlkaa.P
open Go.RowKit Go.Proofs.YtgheopbdmijlkaaW.PrintWords Go.Proofs.YtgheopbdmijlkaaW.PrintLast Go.Proofs.YtgheopbdmijlkaaW.PrintMore
attribute [local go_sem] max2_int min2_int max_two min_two max_three min_three max_four min_four   -- for this text's walks alone
set_option linter.unusedVariables false
set_option linter.unusedSimpArgs false

/-! ### impl_set_text: function 70 -/
def impl_set_text.j0:Nat→Bool→List Bool→List Bool→Option (ByteArray × Bool)
 | 0,_,_,_=>none
 | k+1,x13,x310000,x310001=>if x13=true then (some ((⟨#[]⟩:ByteArray),false)) else ((impl_told.f x310000).bind fun t310=>(if t310.size+1≤9223372036854775807 then ((impl_told.f x310001).bind fun t311=>(if t310.size+1+t311.size≤9223372036854775807 then (if t310.size+1+t311.size+1≤9223372036854775807 then (some (((t310++(⟨#[40]⟩:ByteArray))++t311)++(⟨#[41]⟩:ByteArray),true)) else (none)) else (none))) else (none)))
def impl_set_text.f (k:Nat) (l0_0:List Bool) (l0_1:List Bool):Option (ByteArray × Bool):=if (l0_0.length:Int) > 60 then (impl_set_text.j0 k true l0_0 l0_1) else (impl_set_text.j0 k (decide ((l0_1.length:Int) > 60)) l0_0 l0_1)
theorem impl_set_text.mono_l:∀ k,(∀ y0 y1 y2,LeO (impl_set_text.j0 k y0 y1 y2) (impl_set_text.j0 (k+1) y0 y1 y2))
 | 0=>fun _ _ _ r h=>by simp [impl_set_text.j0] at h
 | k+1=>by
  have ih0:=impl_set_text.mono_l k
  ·intro y0 y1 y2
   unfold impl_set_text.j0
   repeat' first
   | (with_reducible exact ih0 _ _ _)
   | (with_reducible exact LeO.refl _)
   | (with_reducible exact LeO.none _)
   | (with_reducible refine LeO.ite ?_ ?_)
   | (with_reducible refine LeO.bind ?_ (fun _=>?_))
   | exact ih0 _ _ _
   | exact LeO.none _
   | refine LeO.ite ?_ ?_
   | refine LeO.bind ?_ (fun _=>?_)
theorem impl_set_text.mono:∀ a0 a1 k,LeO (impl_set_text.f k a0 a1) (impl_set_text.f (k+1) a0 a1):=by
 intro a0 a1 k
 have ih0:=impl_set_text.mono_l k
 unfold impl_set_text.f
 repeat' first
   | (with_reducible exact ih0 _ _ _)
   | (with_reducible exact LeO.refl _)
   | (with_reducible exact LeO.none _)
   | (with_reducible refine LeO.ite ?_ ?_)
   | (with_reducible refine LeO.bind ?_ (fun _=>?_))
   | exact ih0 _ _ _
   | exact LeO.none _
   | refine LeO.ite ?_ ?_
   | refine LeO.bind ?_ (fun _=>?_)
def impl_set_text.T3:Bool × List (List Nat × List Nat):=(true,[([],[]),([0],[0]),([1],[1]),([2],[2]),([],[]),([4],[4]),([5,2],[5]),([3,6],[3,6]),([7],[7]),([8,6,0,1,2,3,4,5,6,7,8],[8]),([9,0,1,2,3,4,5,6,7,8,9],[])])
def impl_set_text.B3:List Nat:=[0,1,3,7,0,16,55,127,255,511,1023]
theorem impl_set_text.tab3:rtab .any (opsOf Try.f70 3)=impl_set_text.T3:=by kernel_rfl
theorem impl_set_text.bits3:waitsOk impl_set_text.T3.2 impl_set_text.B3=true:=by kernel_rfl
set_option maxHeartbeats 8000000 in
set_option maxRecDepth 100000 in
theorem impl_set_text.calls (k:Nat) (A0_0:Option Addr) (c0_0:Nat) (l0_0:List Bool) (A0_1:Option Addr) (c0_1:Nat) (l0_1:List Bool) (r1:ByteArray) (r2:Bool) (w:World) (hr0_0:Kd.C Kd.bool w A0_0 l0_0.length l0_0) (hc0_0:l0_0.length≤c0_0) (hr0_1:Kd.C Kd.bool w A0_1 l0_1.length l0_1) (hc0_1:l0_1.length≤c0_1) (h:impl_set_text.f k l0_0 l0_1=some (r1,r2)) :
  Calls Try.prog 70 #[.agg #[.slice A0_0 l0_0.length c0_0,.slice A0_1 l0_1.length c0_1]] w fun e w'=>e=.returned (.tuple #[.string r1,.bool r2])∧Below w.heap.size w w':=by
 have hu41:=Try.underlying41
 have HR0_0:=Aside0.mk hr0_0
 have HC0_0:=Aside0.mk hc0_0
 clear hr0_0 hc0_0
 have HR0_1:=Aside0.mk hr0_1
 have HC0_1:=Aside0.mk hc0_1
 clear hr0_1 hc0_1
 have HB:=Aside0.mk (Below.refl w.heap.size w)
 have H:(if (l0_0.length:Int) > 60 then (impl_set_text.j0 k true l0_0 l0_1) else (impl_set_text.j0 k (decide ((l0_1.length:Int) > 60)) l0_0 l0_1))=some (r1,r2):=h
 clear h
 have HC2:=Aside0.mk H
 clear H
 go_enter Try.func70,Try.ntmps70
 go_upto_region 1 with (first|((with_reducible refine gate_dst (N:=1) rfl ?_);(try (refine gate_guard (by rfl) ?_;dsimp only));refine box_event ?hg (N:=1) ?hd (cs:=#[.slice A0_0 l0_0.length c0_0,.slice A0_1 l0_1.length c0_1]) (t:=41) ?hr ?_;(case hd=>rfl);(case hg=>rfl);(case hr=>first|(go_simp;done)|(go_simp;rfl));intro gb309 hg w3 hbox hb;have n0_:=Aside0.mk (yP (by repeat (first|(with_reducible first|exact HB.out|apply yA|apply yB|apply yC)|exact HB.out)) hb);have n1_:=Aside0.mk (hbox);have n2_:=Aside0.mk ((by rw [hg];exact (yQ (by repeat (first|(with_reducible first|exact HB.out|apply yA|apply yB|apply yC)|exact HB.out))):w.heap.size≤gb309));have n3_:=Aside0.mk ((by rw [hg];exact (yQ (by repeat (first|(with_reducible first|exact HB.out|apply yA|apply yB|apply yC)|exact HB.out))):w.heap.size≤gb309));clear HB;have HB:=n0_;have BK309:=n1_;have GW309:=n2_;have GE309:=n3_;clear n0_ n1_ n2_ n3_;clear hb hbox hg))
 (try simp only [Act.put,yK,yL,yM])
 go_cut [13] (fun v13 wc=>∃ (kq:Nat) (x13_1:Bool),v13=.bool x13_1∧Aside0 (impl_set_text.j0 kq x13_1 l0_0 l0_1=some (r1,r2))∧Aside0 (kq≤k)∧Aside0 (wc.heap[gb309]?=some (.cells #[(.slice A0_0 l0_0.length c0_0),(.slice A0_1 l0_1.length c0_1)] 41 (0,0)))∧Aside0 (Below w.heap.size w wc))
 case first =>
  have H:=HC2.out
  clear HC2
  by_cases c4:(l0_0.length:Int) > 60
  ·rw [if_pos c4] at H
   have c4b0:decide (60<(l0_0.length:Int))=true:=decide_eq_true c4
   have c4b1:decide (60<l0_0.length)=true:=decide_eq_true (by omega)
   clear c4
   (first|rw [c4b0]|(simp only [i64_w,i32_w];rw [c4b0])|skip)
   have H':=Aside0.mk H
   clear H
   have hcz5_0:w3.cell? ⟨gb309,0,none⟩=some (.slice A0_0 l0_0.length c0_0):=(blk_cell BK309.out 0).trans rfl
   have hcz5_1:w3.cell? ⟨gb309,1,none⟩=some (.slice A0_1 l0_1.length c0_1):=(blk_cell BK309.out 1).trans rfl
   have hfz5_0:=blk_frozen BK309.out 0
   have hfz5_1:=blk_frozen BK309.out 1
   go_wp2
   go_meet
   case rel=>exact ⟨_,(true),(by first|rfl|(simp;done)|(simp [*];done)|(simp [Int.tmod_eq_emod_of_nonneg];done)),H',⟨by first|omega|exact Nat.le_refl _⟩,⟨by (with_reducible repeat (first|refine yE ?_ _|refine yF ?_|refine yG ?_ _));exact BK309.out⟩,⟨by repeat (first|(with_reducible first|exact HB.out|apply yA|apply yB|apply yC|refine yD ?_ GE309.out)|exact HB.out)⟩⟩
  ·rw [if_neg c4] at H
   have c4b0:decide (60<(l0_0.length:Int))=false:=decide_eq_false c4
   have c4b1:decide (60<l0_0.length)=false:=decide_eq_false (by omega)
   clear c4
   (first|rw [c4b0]|(simp only [i64_w,i32_w];rw [c4b0])|skip)
   have H':=Aside0.mk H
   clear H
   have hcz6_0:w3.cell? ⟨gb309,0,none⟩=some (.slice A0_0 l0_0.length c0_0):=(blk_cell BK309.out 0).trans rfl
   have hcz6_1:w3.cell? ⟨gb309,1,none⟩=some (.slice A0_1 l0_1.length c0_1):=(blk_cell BK309.out 1).trans rfl
   have hfz6_0:=blk_frozen BK309.out 0
   have hfz6_1:=blk_frozen BK309.out 1
   go_wp2
   go_meet
   case rel=>exact ⟨_,(decide ((l0_1.length:Int) > 60)),(by first|rfl|(simp;done)|(simp [*];done)|(simp [Int.tmod_eq_emod_of_nonneg];done)),H',⟨by first|omega|exact Nat.le_refl _⟩,⟨by (with_reducible repeat (first|refine yE ?_ _|refine yF ?_|refine yG ?_ _));exact BK309.out⟩,⟨by repeat (first|(with_reducible first|exact HB.out|apply yA|apply yB|apply yC|refine yD ?_ GE309.out)|exact HB.out)⟩⟩
 case rest =>
  clear HC2
  try clear p2
  try clear c4
  try clear c4b0
  try clear c4b1
  try clear hcz5_0
  try clear hcz5_1
  try clear hcz6_0
  try clear hcz6_1
  try clear hfz5_0
  try clear hfz5_1
  try clear hfz6_0
  try clear hfz6_1
  obtain ⟨kq,x13_1,rfl,HA,HJ1,BK309,HB⟩:=hcut
  cases kq with
  | zero=>exact absurd HA.out (by simp [impl_set_text.j0])
  | succ kj1 =>
   have H:=HA.out
   clear HA
   simp only [impl_set_text.j0] at H
   by_cases c7:x13_1=true
   ·subst c7
    have H1:(some ((⟨#[]⟩:ByteArray),false))=some (r1,r2):=by rw [if_pos rfl] at H;exact H
    clear H
    have H:=H1
    clear H1
    simp only [Option.some.injEq,Prod.mk.injEq] at H
    obtain ⟨rfl,rfl⟩:=H
    go_wp2
    go_ret2
    exact ⟨by first|rfl|(simp [errW_none,errW_some]<;>rfl)|(simp [*,errW_none,errW_some]<;>rfl)|(simp [errW_none,errW_some];exact ⟨rfl,rfl⟩),by repeat (first|(with_reducible first|exact HB.out|apply yA|apply yB|apply yC|refine yD ?_ GE309.out)|exact HB.out)⟩
   ·replace c7:=Bool.eq_false_iff.mpr c7
    subst c7
    have H1:((impl_told.f l0_0).bind fun t310=>(if t310.size+1≤9223372036854775807 then ((impl_told.f l0_1).bind fun t311=>(if t310.size+1+t311.size≤9223372036854775807 then (if t310.size+1+t311.size+1≤9223372036854775807 then (some (((t310++(⟨#[40]⟩:ByteArray))++t311)++(⟨#[41]⟩:ByteArray),true)) else (none)) else (none))) else (none)))=some (r1,r2):=by rw [if_neg (show ¬ (false=true) by decide)] at H;exact H
    clear H
    have H:=H1
    clear H1
    replace H:=Option.bind_eq_some_iff.mp H
    obtain ⟨t310,A80,H⟩:=H
    replace H:(if t310.size+1≤9223372036854775807 then ((impl_told.f l0_1).bind fun t311=>(if t310.size+1+t311.size≤9223372036854775807 then (if t310.size+1+t311.size+1≤9223372036854775807 then (some (((t310++(⟨#[40]⟩:ByteArray))++t311)++(⟨#[41]⟩:ByteArray),true)) else (none)) else (none))) else (none))=some (r1,r2):=H
    have A8:=Aside0.mk A80
    clear A80
    by_cases c9:t310.size+1≤9223372036854775807
    ·rw [if_pos c9] at H
     have c9b0:=eq_true c9
     have c9b1:decide (t310.size+1≤9223372036854775807)=true:=decide_eq_true c9
     try have c9b2:(9223372036854775807<t310.size+1)=False:=eq_false (Nat.not_lt.2 c9)
     replace H:=Option.bind_eq_some_iff.mp H
     obtain ⟨t311,A100,H⟩:=H
     replace H:(if t310.size+1+t311.size≤9223372036854775807 then (if t310.size+1+t311.size+1≤9223372036854775807 then (some (((t310++(⟨#[40]⟩:ByteArray))++t311)++(⟨#[41]⟩:ByteArray),true)) else (none)) else (none))=some (r1,r2):=H
     have A10:=Aside0.mk A100
     clear A100
     by_cases c11:t310.size+1+t311.size≤9223372036854775807
     ·rw [if_pos c11] at H
      have c11b0:=eq_true c11
      have c11b1:decide (t310.size+1+t311.size≤9223372036854775807)=true:=decide_eq_true c11
      try have c11b2:(9223372036854775807<t310.size+1+t311.size)=False:=eq_false (Nat.not_lt.2 c11)
      by_cases c12:t310.size+1+t311.size+1≤9223372036854775807
      ·rw [if_pos c12] at H
       have c12b0:=eq_true c12
       have c12b1:decide (t310.size+1+t311.size+1≤9223372036854775807)=true:=decide_eq_true c12
       try have c12b2:(9223372036854775807<t310.size+1+t311.size+1)=False:=eq_false (Nat.not_lt.2 c12)
       simp only [Option.some.injEq,Prod.mk.injEq] at H
       obtain ⟨rfl,rfl⟩:=H
       try go_wp2
       have n0_:=Aside0.mk (yF BK309.out)
       have n1_:=Aside0.mk (yC HB.out)
       clear BK309
       clear HB
       have BK309:=n0_
       have HB:=n1_
       clear n0_ n1_
       refine start_ (n:=11) (S:=fun w'=>w'.cell? ⟨gb309,0,none⟩=some (.slice A0_0 l0_0.length c0_0)∧w'.cell? ⟨gb309,1,none⟩=some (.slice A0_1 l0_1.length c0_1)) (ds:=[]) #[false,false,false,false,false,false,false,false,false,false,false] (by kernel_rfl) rfl rfl ⟨(blk_cell BK309.out 0).trans rfl,(blk_cell BK309.out 1).trans rfl⟩ (fun hHeld=>?_);refine with_tabW impl_set_text.tab3 impl_set_text.bits3 (fun HT_ HW_=>?_)
       generalize wc.drew=w13 at BK309 HB hHeld ⊢
       refine pure_ (i:=0) (N:=some 14) (v:=?_) (a':=?_) #[true,false,false,false,false,false,false,false,false,false,false] rfl rfl (any_of HT_.out (by kernel_rfl)) (fun _ _ _ h=>h) (Or.inl ⟨by rfl,?_⟩) ?_ ?_
       rotate_left
       ·intro w'
        go_simp
        with_reducible rfl
       rotate_left
       ·simp only [Act.put,yK,yL,yM,i64_w,i32_w]
        rfl
       refine pure_ (i:=4) (N:=some 18) (v:=?_) (a':=?_) #[true,false,false,false,true,false,false,false,false,false,false] rfl rfl (any_of HT_.out (by kernel_rfl)) (fun _ _ _ h=>h) (Or.inl ⟨by rfl,?_⟩) ?_ ?_
       rotate_left
       ·intro w'
        go_simp
        with_reducible rfl
       rotate_left
       ·simp only [Act.put,yK,yL,yM,i64_w,i32_w]
        rfl
       refine take_ (i:=1) (N:=some 15) (v:=?_) (a':=?_) #[true,true,false,false,true,false,false,false,false,false,false] rfl rfl (take_ofW HT_.out HW_.out (by kernel_rfl)) (fun _ _ _ h=>h) (Or.inl ⟨by rfl,?_⟩) hHeld ?_ ?_
       rotate_left
       ·rintro w' ⟨s0,s1⟩
        go_simp
        with_reducible rfl
       rotate_left
       ·simp only [Act.put,yK,yL,yM,i64_w,i32_w]
        rfl
       refine take_ (i:=5) (N:=some 19) (v:=?_) (a':=?_) #[true,true,false,false,true,true,false,false,false,false,false] rfl rfl (take_ofW HT_.out HW_.out (by kernel_rfl)) (fun _ _ _ h=>h) (Or.inl ⟨by rfl,?_⟩) hHeld ?_ ?_
       rotate_left
       ·rintro w' ⟨s0,s1⟩
        go_simp
        with_reducible rfl
       rotate_left
       ·simp only [Act.put,yK,yL,yM,i64_w,i32_w]
        rfl
       refine one_ (i:=2) (N:=some 16) #[true,true,true,false,true,true,false,false,false,false,false] rfl rfl (one_of HT_.out (by kernel_rfl)) (by decide) (fun K hK=>?_)
       refine goes_ Try.func81 (by kernel_rfl) rfl #[.slice A0_0 l0_0.length c0_0] (by rfl) rfl rfl (by (try simp only [List.map_toArray,List.map_cons,List.map_nil]);first|done|rfl|(simp only [List.length_drop,List.length_take];rfl)) ?_
       with_reducible refine (impl_told.calls _ _ l0_0 t310 _ ?side1 ?side2 A8.out).mono ?_
       (case side1=>repeat (first|exact (Kd.C_below HR0_0.out HB.out)|(with_reducible refine Kd.C_alloc ?_ _)|(with_reducible refine Kd.C_drewN ?_ _)|(with_reducible refine Kd.C_drew ?_)))
       (case side2=>exact HC0_0.out)
       rintro e w14 ⟨rfl,hb⟩
       refine ⟨_,rfl,?_⟩
       have n0_:=Aside0.mk (blk_below (g:=gb309) (o:=.cells #[.slice A0_0 l0_0.length c0_0,.slice A0_1 l0_1.length c0_1] 41 (0,0)) (by (with_reducible repeat (first|refine yE ?_ _|refine yF ?_|refine yG ?_ _));exact BK309.out) hb)
       have n1_:=Aside0.mk (yP (by repeat (first|(with_reducible first|exact HB.out|apply yA|apply yB|apply yC|refine yD ?_ GE309.out)|exact HB.out)) hb)
       clear BK309
       clear HB
       have BK309:=n0_
       have HB:=n1_
       clear n0_ n1_
       (try clear hb)
       (try clear hb2)
       (try clear hk)
       (try clear hi)
       refine hK.out _ _ ⟨(blk_cell BK309.out 0).trans rfl,(blk_cell BK309.out 1).trans rfl⟩ (fun hHeld=>?_)
       clear hK K
       refine norm_ (a':=?_) ?_ ?_
       rotate_left
       ·show Act.put _ (some 16) _=_
        simp only [Act.put,yK,yL,yM,i64_w,i32_w]
        rfl
       refine pure_ (i:=3) (N:=some 17) (v:=?_) (a':=?_) #[true,true,true,true,true,true,false,false,false,false,false] rfl rfl (any_of HT_.out (by kernel_rfl)) (fun _ _ _ h=>h) (Or.inl ⟨by rfl,?_⟩) ?_ ?_
       rotate_left
       ·intro w'
        go_simp
        with_reducible rfl
       rotate_left
       ·simp only [Act.put,yK,yL,yM,i64_w,i32_w]
        rfl
       refine one_ (i:=6) (N:=some 20) #[true,true,true,true,true,true,true,false,false,false,false] rfl rfl (one_of HT_.out (by kernel_rfl)) (by decide) (fun K hK=>?_)
       refine goes_ Try.func81 (by kernel_rfl) rfl #[.slice A0_1 l0_1.length c0_1] (by rfl) rfl rfl (by (try simp only [List.map_toArray,List.map_cons,List.map_nil]);first|done|rfl|(simp only [List.length_drop,List.length_take];rfl)) ?_
       with_reducible refine (impl_told.calls _ _ l0_1 t311 _ ?side1 ?side2 A10.out).mono ?_
       (case side1=>repeat (first|exact (Kd.C_below HR0_1.out HB.out)|(with_reducible refine Kd.C_alloc ?_ _)|(with_reducible refine Kd.C_drewN ?_ _)|(with_reducible refine Kd.C_drew ?_)))
       (case side2=>exact HC0_1.out)
       rintro e w15 ⟨rfl,hb⟩
       refine ⟨_,rfl,?_⟩
       have n0_:=Aside0.mk (blk_below (g:=gb309) (o:=.cells #[.slice A0_0 l0_0.length c0_0,.slice A0_1 l0_1.length c0_1] 41 (0,0)) (by (with_reducible repeat (first|refine yE ?_ _|refine yF ?_|refine yG ?_ _));exact BK309.out) hb)
       have n1_:=Aside0.mk (yP (by repeat (first|(with_reducible first|exact HB.out|apply yA|apply yB|apply yC|refine yD ?_ GE309.out)|exact HB.out)) hb)
       clear BK309
       clear HB
       have BK309:=n0_
       have HB:=n1_
       clear n0_ n1_
       (try clear hb)
       (try clear hb2)
       (try clear hk)
       (try clear hi)
       refine hK.out _ _ ⟨(blk_cell BK309.out 0).trans rfl,(blk_cell BK309.out 1).trans rfl⟩ (fun hHeld=>?_)
       clear hK K
       refine norm_ (a':=?_) ?_ ?_
       rotate_left
       ·show Act.put _ (some 20) _=_
        simp only [Act.put,yK,yL,yM,i64_w,i32_w]
        rfl
       refine pure_ (i:=7) (N:=some 21) (v:=?_) (a':=?_) #[true,true,true,true,true,true,true,true,false,false,false] rfl rfl (any_of HT_.out (by kernel_rfl)) (fun _ _ _ h=>h) (Or.inl ⟨by rfl,?_⟩) ?_ ?_
       rotate_left
       ·intro w'
        go_simp
        with_reducible rfl
       rotate_left
       ·simp only [Act.put,yK,yL,yM,i64_w,i32_w]
        rfl
       refine pure_ (i:=8) (N:=some 22) (v:=?_) (a':=?_) #[true,true,true,true,true,true,true,true,true,false,false] rfl rfl (any_of HT_.out (by kernel_rfl)) (fun _ _ _ h=>h) (Or.inl ⟨by rfl,?_⟩) ?_ ?_
       rotate_left
       ·intro w'
        go_simp
        with_reducible rfl
       rotate_left
       ·simp only [Act.put,yK,yL,yM,i64_w,i32_w]
        rfl
       refine pure_ (i:=9) (N:=some 2) (v:=?_) (a':=?_) #[true,true,true,true,true,true,true,true,true,true,false] rfl rfl (any_of HT_.out (by kernel_rfl)) (fun _ _ _ h=>h) (Or.inl ⟨by rfl,?_⟩) ?_ ?_
       rotate_left
       ·intro w'
        go_simp
        with_reducible rfl
       rotate_left
       ·simp only [Act.put,yK,yL,yM,i64_w,i32_w]
        rfl
       refine pure_ (i:=10) (N:=some 3) (v:=?_) (a':=?_) #[true,true,true,true,true,true,true,true,true,true,true] rfl rfl (any_of HT_.out (by kernel_rfl)) (fun _ _ _ h=>h) (Or.inl ⟨by rfl,?_⟩) ?_ ?_
       rotate_left
       ·intro w'
        go_simp
        with_reducible rfl
       rotate_left
       ·simp only [Act.put,yK,yL,yM,i64_w,i32_w]
        rfl
       refine done_ (done_of HT_.out (by kernel_rfl)) ?_
       try go_wp2
       go_ret2
       exact ⟨by first|rfl|(simp [errW_none,errW_some]<;>rfl)|(simp [*,errW_none,errW_some]<;>rfl)|(simp [errW_none,errW_some];exact ⟨rfl,rfl⟩),by repeat (first|(with_reducible first|exact HB.out|apply yA|apply yB|apply yC|refine yD ?_ GE309.out)|exact HB.out)⟩
      ·rw [if_neg c12] at H
       exact absurd H (by simp)
     ·rw [if_neg c11] at H
      exact absurd H (by simp)
    ·rw [if_neg c9] at H
     exact absurd H (by simp)

end Go.Proofs.Ytgheopbdmijlkaa.P

namespace Go.Proofs.Ytgheopbdmijlkaa.P
open Go.RowKit Go.Proofs.YtgheopbdmijlkaaW.PrintWords Go.Proofs.YtgheopbdmijlkaaW.PrintLast Go.Proofs.YtgheopbdmijlkaaW.PrintMore
set_option linter.unusedVariables false
set_option linter.unusedSimpArgs false

theorem bool_info : (Try.prog.info? 4).map (fun i => (i.zero, i.size, i.bytes)) = some (some (.bool false), 1, 1) := by kernel_rfl
theorem take_bools {l : List Bool} {k : Nat} (h : k < l.length) : (l.take (k + 1)).map Value.bool = (l.take k).map Value.bool ++ [.bool (l.getD k false)] := by
  rw [List.take_succ_eq_append_getElem h, List.map_append, List.getD_eq_getElem?_getD, List.getElem?_eq_getElem h]; rfl

theorem frozen_alloc_old {w : World} {a : Addr} (h : w.frozen? a = false) (hl : a.block < w.heap.size) (o : Obj) : (w.alloc o).frozen? a = false :=
  (World.frozen?_of_block (Below.heap_alloc w o a.block hl)).trans h
theorem getD_left {t r : List Bool} {i : Nat} (h : i < t.length) : (t ++ r).getD i false = t.getD i false := by
  rw [List.getD_eq_getElem?_getD, List.getD_eq_getElem?_getD, List.getElem?_append_left h]
theorem getD_right {t r : List Bool} (i : Nat) : (t ++ r).getD (t.length + i) false = r.getD i false := by
  rw [List.getD_eq_getElem?_getD, List.getD_eq_getElem?_getD, List.getElem?_append_right (by omega), Nat.add_sub_cancel_left]
theorem own_set {w : World} {base : Nat} {e : TypeId} {size n : Nat} {v : Value} {xs : List Value} {b j : Nat} (h : w.ownsRow base e size v n xs) (hne : v.ownBlock ≠ some b) (u : Value) : (w.setCell ⟨b, j, none⟩ u).ownsRow base e size v n xs :=
  h.kept (row := some b) ⟨rfl, rfl, rfl, by simp [World.setCell], fun k _ hk => Below.heap_setCell _ _ _ _ (fun e => hk (by simp [e]))⟩ (Or.inr hne)
theorem set_cell0 {w : World} {b : Nat} {v0 v1 : Value} {T : TypeId} (h : w.heap[b]? = some (.cells #[v0, v1] T (0, 0))) (u : Value) : (w.setCell ⟨b, 0, none⟩ u).heap[b]? = some (.cells #[u, v1] T (0, 0)) := by
  simp [World.setCell, Array.getElem?_modify, h]
theorem set_cell1 {w : World} {b : Nat} {v0 v1 : Value} {T : TypeId} (h : w.heap[b]? = some (.cells #[v0, v1] T (0, 0))) (u : Value) : (w.setCell ⟨b, 1, none⟩ u).heap[b]? = some (.cells #[v0, u] T (0, 0)) := by
  simp [World.setCell, Array.getElem?_modify, h]
/-- A round: the call, the cell to be appended, the append. -/
theorem made_block {wr w1 w2 : World} {o ob : Obj} {row : Option Nat} {b : Nat} (hh : wr.heap[b]? = some o) (hb1 : Below wr.heap.size wr w1) (hg : (w1.alloc ob).grownBy w2 row) (hne : row ≠ some b) : w2.heap[b]? = some o := by
  have hl := blk_lt hh
  have h1 : w1.heap[b]? = some o := (hb1.block b hl).trans hh
  exact (hg.block b (by have := blk_lt h1; simp; omega) (Ne.symm hne)).trans ((Below.heap_alloc w1 ob b (blk_lt h1)).trans h1)

set_option maxHeartbeats 16000000 in
set_option maxRecDepth 100000 in
theorem impl_made.calls (k : Nat) (t r : List Bool) (r1 : ByteArray) (r2 : Bool) (g : Nat) (lb : Array Value) (w : World)
    (eg : ∀ args w, (callFunc g args).run Try.prog w = .ok (.enter g args) w)
    (hp : ∀ (W : World) (i : Nat), Below w.heap.size w W → i < t.length + r.length → Calls Try.prog g (#[.int .i64 i] ++ lb) W fun e w' => e = .returned (.bool ((t ++ r).getD i false)) ∧ Below W.heap.size W w')
    (hl : t.length + r.length ≤ 1000000) (h : (impl_set_tidy.f k t r).bind (fun y => impl_set_text.f k y.1 y.2) = some (r1, r2)) :
    Calls Try.prog 48 #[.int .i64 t.length, .int .i64 r.length, .func (.func g) #[] lb] w fun e w' => e = .returned (.tuple #[.string r1, .bool r2]) ∧ Below w.heap.size w w' := by
  obtain ⟨i0, hi, hz0, hz1, hz2⟩ := info_parts bool_info
  have HL := Aside0.mk hl
  have HP := Aside0.mk hp
  have HX := Aside0.mk h
  clear hp h hl
  go_enter Try.func48, Try.ntmps48
  go_wp2
  go_loopg [12] t.length (fun gg s12 wr => ∃ (k : Nat) (v0 : Value), k ≤ t.length ∧ t.length - k ≤ gg ∧ s12 = .int .i64 k ∧ Aside0 (wr.heap[w.heap.size]? = some (.cells #[v0, .slice none 0 0] 41 (0, 0))) ∧ Aside0 (wr.ownsRow w.heap.size 4 1 v0 k ((t.take k).map Value.bool)) ∧ Aside0 (Below w.heap.size w wr))
  case atStart =>
    exact ⟨0, .slice none 0 0, Nat.zero_le _, by omega, rfl, ⟨heap_alloc_new _ _⟩, ⟨World.ownsRow_nil _ _ _ _⟩, ⟨below_alloc (Below.refl _ _) _⟩⟩
  case round =>
    obtain ⟨kk, v0, hk, hgg, rfl, HH, HO, HB⟩ := hrel
    by_cases hlt : kk < t.length
    · obtain ⟨bv, hbv⟩ : ∃ bv, (t ++ r).getD kk false = bv := ⟨_, rfl⟩
      have hcall : ∀ W, Below w.heap.size w W → Calls Try.prog g (#[.int .i64 kk] ++ lb) W fun e w' => e = .returned (.bool bv) ∧ Below W.heap.size W w' := fun W hW => by
        have := HP.out W kk hW (by omega)
        rw [hbv] at this; exact this
      have hlen := HL.out
      have c0 : wr.cell? ⟨w.heap.size, 0, none⟩ = some v0 := by rw [Lib.cell_of_heap HH.out]; rfl
      have f0 : wr.frozen? ⟨w.heap.size, 0, none⟩ = false := Lib.frozen_of_heap HH.out 0
      have hbl : w.heap.size < wr.heap.size := World.block_lt_of_cell? wr _ c0
      have hne : v0.ownBlock ≠ some w.heap.size := Lib.ownBlock_ne HO.out HH.out (by decide)
      have HV := Aside0.mk hbv
      have HCall := Aside0.mk hcall
      clear hbv hcall
      go_wp2_with fail
      go_region_law ((first
          | (go_simp; go_at_fn g; refine (HCall.out _ (by repeat (first | exact HB.out | apply below_drew1))).mono ?_; rintro e w1 ⟨rfl, hb0⟩; have hb1 : Below wr.heap.size wr w1 := ⟨hb0.os, hb0.tape, hb0.output, hb0.size, hb0.block⟩; have c1 : w1.cell? ⟨w.heap.size, 0, none⟩ = some v0 := (hb1.cell (p := ⟨w.heap.size, 0, none⟩) hbl).trans c0; have f1 : w1.frozen? ⟨w.heap.size, 0, none⟩ = false := (hb1.frozen (p := ⟨w.heap.size, 0, none⟩) hbl).trans f0; have hl1 := Nat.lt_of_lt_of_le hbl hb1.size; have hlN := Nat.le_trans (Nat.le_of_lt hbl) hb1.size; have c1a : ∀ o, (w1.alloc o).cell? ⟨w.heap.size, 0, none⟩ = some v0 := fun o => Lib.cell?_alloc_some _ c1)
          | (refine step_append_lies _ (by rfl) _ _ _ (by rfl) w.heap.size 4 i0 _ 1 1 Try.underlying39 hi hz0 hz1 hz2 rfl (by omega) v0 kk ((t.take kk).map Value.bool) (by rfl) (pw_own_below HO.out (by repeat (first | exact hb1 | apply below_alloc | apply below_drew1))) ⟨w1.heap.size, 0, none⟩ 1 1 [.bool bv] (by rfl) (by rfl) (World.news_of_block (cs := #[.bool bv]) (t := 4) (fr := (0, 0)) (heap_alloc_new _ _)) (by simp [Value.oneCell']) (by omega) (by unfold maxLen; omega) (by omega) (by simp; omega) _ rfl ?_; intro gg cap w2 hown2 hgrow hat hlt2; have f2 : w2.frozen? ⟨w.heap.size, 0, none⟩ = false := (hgrow.frozen_far ⟨w.heap.size, 0, none⟩ (by simp; omega) (Ne.symm hne)).trans (frozen_alloc_old f1 hl1 _); have c2 : w2.cell? ⟨w.heap.size, 0, none⟩ = some v0 := (hgrow.cell_far ⟨w.heap.size, 0, none⟩ (by simp; omega) (Ne.symm hne)).trans (c1a _))))
      all_goals
        go_wp2
        go_roundg (t.length - (kk + 1))
        case measure => omega
        case rel =>
          have hw2 := made_block HH.out hb1 hgrow hne
          have e : t.getD kk false = bv := (getD_left hlt).symm.trans HV.out
          refine ⟨kk + 1, _, by omega, by omega, by go_num, ⟨set_cell0 hw2 _⟩, ⟨?_⟩, ⟨((below_alloc (below_step HB.out hb1) _).grown hgrow (by have := hb1.size; simp; omega) (fun k hk => (HO.out.lt k hk).1)).setCell (Nat.le_refl _) _⟩⟩
          rw [take_bools hlt, e]
          exact own_set hown2 (Lib.ownBlock_ne hown2 hw2 (by decide)) _
    · have e : kk = t.length := by omega
      subst e
      have e : t.take t.length = t := List.take_of_length_le (Nat.le_refl _)
      rw [e] at HO
      clear e
      obtain ⟨B2, hB2⟩ : ∃ B2, wr.heap.size = B2 := ⟨_, rfl⟩
      have hv0 : ∀ k, v0.ownBlock = some k → k < B2 := fun k hk => by rw [← hB2]; exact (HO.out.lt k hk).2
      have hn0 : v0.ownBlock ≠ some w.heap.size := Lib.ownBlock_ne HO.out HH.out (by decide)
      have HB2 := Aside0.mk hB2
      have HV0 := Aside0.mk hv0
      have HN0 := Aside0.mk hn0
      clear hB2 hv0 hn0
      go_wp2
      go_loopg [25] r.length (fun gg s25 wq => ∃ (k : Nat) (v1 : Value), k ≤ r.length ∧ r.length - k ≤ gg ∧ s25 = .int .i64 k ∧ Aside0 (wq.heap[w.heap.size]? = some (.cells #[v0, v1] 41 (0, 0))) ∧ Aside0 (wq.ownsRow w.heap.size 4 1 v0 t.length (t.map Value.bool)) ∧ Aside0 (wq.ownsRow B2 4 1 v1 k ((r.take k).map Value.bool)) ∧ Aside0 (Below w.heap.size w wq) ∧ Aside0 (B2 ≤ wq.heap.size) ∧ Aside0 (w.heap.size < B2))
      case atStart =>
        exact ⟨0, .slice none 0 0, Nat.zero_le _, by omega, rfl, HH, HO, ⟨World.ownsRow_nil _ _ _ _⟩, HB, ⟨Nat.le_of_eq HB2.out.symm⟩, ⟨by have := blk_lt HH.out; have := HB2.out; omega⟩⟩
      case round =>
        clear HO HH HB
        clear hk hgg hlt
        clear HB2
        obtain ⟨kk, v1, hk, hgg, rfl, HH, HO, HR, HB, HQ, HL2⟩ := hrel
        by_cases hlt : kk < r.length
        · obtain ⟨bv, hbv⟩ : ∃ bv, (t ++ r).getD (t.length + kk) false = bv := ⟨_, rfl⟩
          have hsum : IntKind.i64.wrap ((t.length : Int) + (kk : Int)) = ((t.length + kk : Nat) : Int) := by rw [IntKind.wrap_i64]; have := HL.out; omega
          have hcall : ∀ W, Below w.heap.size w W → Calls Try.prog g (#[.int .i64 ((t.length + kk : Nat) : Int)] ++ lb) W fun e w' => e = .returned (.bool bv) ∧ Below W.heap.size W w' := fun W hW => by
            have := HP.out W (t.length + kk) hW (by omega)
            rw [hbv] at this; exact this
          have hlen := HL.out
          have c0 : wr.cell? ⟨w.heap.size, 1, none⟩ = some v1 := by rw [Lib.cell_of_heap HH.out]; rfl
          have f0 : wr.frozen? ⟨w.heap.size, 1, none⟩ = false := Lib.frozen_of_heap HH.out 1
          have hbl : w.heap.size < wr.heap.size := World.block_lt_of_cell? wr _ c0
          have hne : v1.ownBlock ≠ some w.heap.size := Lib.ownBlock_ne HR.out HH.out (by decide)
          have HV := Aside0.mk hbv
          have HCall := Aside0.mk hcall
          clear hbv hcall
          go_wp2_with fail
          go_region_law ((first
              | (go_simp; go_at_fn g; refine (HCall.out _ (by repeat (first | exact HB.out | apply below_drew1))).mono ?_; rintro e w1 ⟨rfl, hb0⟩; have hb1 : Below wr.heap.size wr w1 := ⟨hb0.os, hb0.tape, hb0.output, hb0.size, hb0.block⟩; have c1 : w1.cell? ⟨w.heap.size, 1, none⟩ = some v1 := (hb1.cell (p := ⟨w.heap.size, 1, none⟩) hbl).trans c0; have f1 : w1.frozen? ⟨w.heap.size, 1, none⟩ = false := (hb1.frozen (p := ⟨w.heap.size, 1, none⟩) hbl).trans f0; have hl1 := Nat.lt_of_lt_of_le hbl hb1.size; have hlN := Nat.le_trans HQ.out hb1.size; have c1a : ∀ o, (w1.alloc o).cell? ⟨w.heap.size, 1, none⟩ = some v1 := fun o => Lib.cell?_alloc_some _ c1)
              | (refine step_append_lies _ (by rfl) _ _ _ (by rfl) B2 4 i0 _ 1 1 Try.underlying39 hi hz0 hz1 hz2 rfl (by omega) v1 kk ((r.take kk).map Value.bool) (by rfl) (pw_own_below HR.out (by repeat (first | exact hb1 | apply below_alloc | apply below_drew1))) ⟨w1.heap.size, 0, none⟩ 1 1 [.bool bv] (by rfl) (by rfl) (World.news_of_block (cs := #[.bool bv]) (t := 4) (fr := (0, 0)) (heap_alloc_new _ _)) (by simp [Value.oneCell']) (by omega) (by unfold maxLen; omega) (by omega) (by simp; omega) _ rfl ?_; intro gg cap w2 hown2 hgrow hat hlt2; have f2 : w2.frozen? ⟨w.heap.size, 1, none⟩ = false := (hgrow.frozen_far ⟨w.heap.size, 1, none⟩ (by simp; omega) (Ne.symm hne)).trans (frozen_alloc_old f1 hl1 _); have c2 : w2.cell? ⟨w.heap.size, 1, none⟩ = some v1 := (hgrow.cell_far ⟨w.heap.size, 1, none⟩ (by simp; omega) (Ne.symm hne)).trans (c1a _))))
          all_goals
            go_wp2
            go_roundg (r.length - (kk + 1))
            case measure => omega
            case rel =>
              have hw2 := made_block HH.out hb1 hgrow hne
              have e : r.getD kk false = bv := (getD_right kk).symm.trans HV.out
              have hsz := hb1.size
              have hB2 := HQ.out
              have hown0 := ((pw_own_below HO.out hb1).alloc (Obj.cells #[.bool bv] 4)).kept hgrow (Classical.byCases (fun h : v0.ownBlock = none => Or.inl h) (fun h => Or.inr (fun e => by
                obtain ⟨q, hq⟩ := Option.ne_none_iff_exists'.1 h
                have h1 := HV0.out q hq
                have h2 := (HR.out.lt q (e.symm.trans hq)).1
                omega)))
              refine ⟨kk + 1, _, by omega, by omega, by go_num, ⟨set_cell1 hw2 _⟩, ⟨own_set hown0 HN0.out _⟩, ⟨?_⟩, ⟨((below_alloc (below_step HB.out hb1) _).grown hgrow (by simp; omega) (fun k hk => by have := (HR.out.lt k hk).1; have := HL2.out; omega)).setCell (Nat.le_refl _) _⟩, ⟨by have := hgrow.size; simp [World.setCell] at this ⊢; omega⟩, HL2⟩
              rw [take_bools hlt, e]
              exact own_set hown2 (Lib.ownBlock_ne hown2 hw2 (by decide)) _
        · have e : kk = r.length := by omega
          subst e
          have e : r.take r.length = r := List.take_of_length_le (Nat.le_refl _)
          rw [e] at HR
          have hX := HX.out
          cases hy : impl_set_tidy.f k t r with
          | none => rw [hy] at hX; cases hX
          | some y =>
            rw [hy] at hX
            obtain ⟨A0, n0, rfl, hn0, hC0⟩ := Kd.R_reads (d := Kd.bool) (Kd.R_of_own (ok := fun _ => True) HO.out (fun _ _ => trivial))
            obtain ⟨A1, n1, rfl, hn1, hC1⟩ := Kd.R_reads (d := Kd.bool) (Kd.R_of_own (ok := fun _ => True) HR.out (fun _ _ => trivial))
            have c0 : wr.cell? ⟨w.heap.size, 0, none⟩ = some (.slice A0 t.length n0) := by rw [Lib.cell_of_heap HH.out]; rfl
            have c1 : wr.cell? ⟨w.heap.size, 1, none⟩ = some (.slice A1 r.length n1) := by rw [Lib.cell_of_heap HH.out]; rfl
            have ht := impl_set_tidy.calls k A0 n0 t A1 n1 r y.1 y.2 wr hC0 hn0 hC1 hn1 hy
            have hX2 : impl_set_text.f k y.1 y.2 = some (r1, r2) := hX
            have HX2 := Aside0.mk hX2
            have HT := Aside0.mk ht
            have HB' := HB
            have hu := Try.underlying41
            clear HB HX hX hX2 ht HP HL HL2 HQ HR HO HH hy hC0 hC1 HN0 HV0 hgg hk hlt hn0 hn1 e
            go_wp2_with (first
              | (go_at_call 69; refine HT.out.mono ?_; rintro e w1 ⟨v0_, v1_, rfl, hR0, hR1, hb1⟩; obtain ⟨A2, n2, rfl, hn2, hC2⟩ := Kd.R_reads hR0; obtain ⟨A3, n3, rfl, hn3, hC3⟩ := Kd.R_reads hR1; have HT2 := Aside0.mk (impl_set_text.calls k A2 n2 y.1 A3 n3 y.2 r1 r2 w1 hC2 hn2 hC3 hn3 HX2.out); have HB1 := Aside0.mk (below_step HB'.out hb1); clear hR0 hR1 hC2 hC3 hn2 hn3 hb1 HT)
              | (go_at_call 70; refine HT2.out.mono ?_; rintro e w2 ⟨rfl, hb2⟩))
            go_ret2
            exact ⟨rfl, below_step HB1.out hb2⟩
end Go.Proofs.Ytgheopbdmijlkaa.P

namespace Go.Proofs.Ytgheopbdmijlkaa.P
open Go.RowKit Go.Proofs.YtgheopbdmijlkaaW.PrintWords Go.Proofs.YtgheopbdmijlkaaW.PrintLast Go.Proofs.YtgheopbdmijlkaaW.PrintMore
attribute [local go_sem] max2_int min2_int max_two min_two max_three min_three max_four min_four   -- for this text's walks alone
set_option linter.unusedVariables false
set_option linter.unusedSimpArgs false

/-! ### stringslite_Cut: function 71 -/
def stringslite_Cut.f (a0:ByteArray) (a1:ByteArray):Option (ByteArray × ByteArray × Bool):=(stringslite_Index.f a0 a1).bind fun t243=>(if t243 ≥ 0 then (if 0≤t243 then (if t243≤(a0.size:Int) then (if 0≤(wrap64 (t243+(a1.size:Int))) then (if (wrap64 (t243+(a1.size:Int)))≤(a0.size:Int) then (some (a0.extract 0 (t243:Int).toNat,a0.extract ((wrap64 (t243+(a1.size:Int))):Int).toNat a0.size,true)) else (none)) else (none)) else (none)) else (none)) else (some (a0,(⟨#[]⟩:ByteArray),false)))
set_option maxHeartbeats 8000000 in
set_option maxRecDepth 100000 in
theorem stringslite_Cut.calls (a0:ByteArray) (a1:ByteArray) (r1:ByteArray) (r2:ByteArray) (r3:Bool) (w:World) (h:stringslite_Cut.f a0 a1=some (r1,r2,r3)) :
  Calls Try.prog 71 #[.string a0,.string a1] w fun e w'=>e=.returned (.tuple #[.string r1,.string r2,.bool r3])∧Drawn0 w w':=by
 have H:((stringslite_Index.f a0 a1).bind fun t243=>(if t243 ≥ 0 then (if 0≤t243 then (if t243≤(a0.size:Int) then (if 0≤(wrap64 (t243+(a1.size:Int))) then (if (wrap64 (t243+(a1.size:Int)))≤(a0.size:Int) then (some (a0.extract 0 (t243:Int).toNat,a0.extract ((wrap64 (t243+(a1.size:Int))):Int).toNat a0.size,true)) else (none)) else (none)) else (none)) else (none)) else (some (a0,(⟨#[]⟩:ByteArray),false))))=some (r1,r2,r3):=h
 clear h
 replace H:=Option.bind_eq_some_iff.mp H
 obtain ⟨t243,A30,H⟩:=H
 replace H:(if t243 ≥ 0 then (if 0≤t243 then (if t243≤(a0.size:Int) then (if 0≤(wrap64 (t243+(a1.size:Int))) then (if (wrap64 (t243+(a1.size:Int)))≤(a0.size:Int) then (some (a0.extract 0 (t243:Int).toNat,a0.extract ((wrap64 (t243+(a1.size:Int))):Int).toNat a0.size,true)) else (none)) else (none)) else (none)) else (none)) else (some (a0,(⟨#[]⟩:ByteArray),false)))=some (r1,r2,r3):=H
 have A3:=Aside0.mk A30
 clear A30
 by_cases c4:t243 ≥ 0
 ·rw [if_pos c4] at H
  have c4b0:decide (0≤t243)=true:=decide_eq_true c4
  clear c4
  by_cases c5:0≤t243
  ·rw [if_pos c5] at H
   have c5b0:=eq_true c5
   have c5b1:decide (0≤t243)=true:=decide_eq_true c5
   clear c5
   by_cases c6:t243≤(a0.size:Int)
   ·rw [if_pos c6] at H
    have c6b0:=eq_true c6
    have c6b1:decide (t243≤(a0.size:Int))=true:=decide_eq_true c6
    clear c6
    obtain ⟨ji7,hji7⟩:∃ j_:Int,(wrap64 (t243+(a1.size:Int)))=j_:=⟨_,rfl⟩
    replace H:(if 0≤(ji7) then (if (ji7)≤(a0.size:Int) then (some (a0.extract 0 (t243:Int).toNat,a0.extract ((ji7):Int).toNat a0.size,true)) else (none)) else (none))=some (r1,r2,r3):=by first|(rw [hji7] at H;exact H)|(simp only [hji7] at H ⊢;exact H)
    (try rw [hji7] at A3)
    have hji7w:(IntKind.i64.wrap (t243+(a1.size:Int)))=ji7:=(i64_w _).trans hji7
    by_cases c8:0≤(ji7)
    ·rw [if_pos c8] at H
     have c8b0:=eq_true c8
     have c8b1:decide (0≤(ji7))=true:=decide_eq_true c8
     clear c8
     by_cases c9:(ji7)≤(a0.size:Int)
     ·rw [if_pos c9] at H
      have c9b0:=eq_true c9
      have c9b1:decide ((ji7)≤(a0.size:Int))=true:=decide_eq_true c9
      clear c9
      simp only [Option.some.injEq,Prod.mk.injEq] at H
      obtain ⟨rfl,rfl,rfl⟩:=H
      go_enter Try.func71,Try.ntmps71
      go_wp2_with (first|(go_at_call 82;(with_reducible refine (stringslite_Index.calls a0 a1 t243 _ A3.out).mono ?_);rintro e w' ⟨rfl,⟨nd,rfl⟩⟩;(try first|exact ⟨rfl,_,World.drewN_drewN _ _ _⟩|exact ⟨rfl,_,Eq.trans (World.drewN_drewN _ _ _) (congrArg (World.drewN _) (Nat.add_assoc _ _ _))⟩)))
      repeat (go_quiet (first|(go_at_call 82;(with_reducible refine (stringslite_Index.calls a0 a1 t243 _ A3.out).mono ?_);rintro e w' ⟨rfl,⟨nd,rfl⟩⟩;(try first|exact ⟨rfl,_,World.drewN_drewN _ _ _⟩|exact ⟨rfl,_,Eq.trans (World.drewN_drewN _ _ _) (congrArg (World.drewN _) (Nat.add_assoc _ _ _))⟩)));try go_wp2_with (first|(go_at_call 82;(with_reducible refine (stringslite_Index.calls a0 a1 t243 _ A3.out).mono ?_);rintro e w' ⟨rfl,⟨nd,rfl⟩⟩;(try first|exact ⟨rfl,_,World.drewN_drewN _ _ _⟩|exact ⟨rfl,_,Eq.trans (World.drewN_drewN _ _ _) (congrArg (World.drewN _) (Nat.add_assoc _ _ _))⟩))))
      go_ret3
      exact ⟨by first|rfl|(simp;done)|(simp only [← hji7]<;>(first|rfl|simp))|(simp [*];done),by repeat (first|exact Drawn0.refl _|apply Drawn0.step)⟩
     ·rw [if_neg c9] at H
      exact absurd H (by simp)
    ·rw [if_neg c8] at H
     exact absurd H (by simp)
   ·rw [if_neg c6] at H
    exact absurd H (by simp)
  ·rw [if_neg c5] at H
   exact absurd H (by simp)
 ·rw [if_neg c4] at H
  have c4b0:decide (0≤t243)=false:=decide_eq_false c4
  clear c4
  simp only [Option.some.injEq,Prod.mk.injEq] at H
  obtain ⟨rfl,rfl,rfl⟩:=H
  go_enter Try.func71,Try.ntmps71
  go_wp2_with (first|(go_at_call 82;(with_reducible refine (stringslite_Index.calls a0 a1 t243 _ A3.out).mono ?_);rintro e w' ⟨rfl,⟨nd,rfl⟩⟩;(try first|exact ⟨rfl,_,World.drewN_drewN _ _ _⟩|exact ⟨rfl,_,Eq.trans (World.drewN_drewN _ _ _) (congrArg (World.drewN _) (Nat.add_assoc _ _ _))⟩)))
  repeat (go_quiet (first|(go_at_call 82;(with_reducible refine (stringslite_Index.calls a0 a1 t243 _ A3.out).mono ?_);rintro e w' ⟨rfl,⟨nd,rfl⟩⟩;(try first|exact ⟨rfl,_,World.drewN_drewN _ _ _⟩|exact ⟨rfl,_,Eq.trans (World.drewN_drewN _ _ _) (congrArg (World.drewN _) (Nat.add_assoc _ _ _))⟩)));try go_wp2_with (first|(go_at_call 82;(with_reducible refine (stringslite_Index.calls a0 a1 t243 _ A3.out).mono ?_);rintro e w' ⟨rfl,⟨nd,rfl⟩⟩;(try first|exact ⟨rfl,_,World.drewN_drewN _ _ _⟩|exact ⟨rfl,_,Eq.trans (World.drewN_drewN _ _ _) (congrArg (World.drewN _) (Nat.add_assoc _ _ _))⟩))))
  go_ret3
  exact ⟨by first|rfl|(simp;done)|(simp [*];done),by repeat (first|exact Drawn0.refl _|apply Drawn0.step)⟩

end Go.Proofs.Ytgheopbdmijlkaa.P

namespace Go.Proofs.Ytgheopbdmijlkaa.P
open Go.RowKit Go.Proofs.YtgheopbdmijlkaaW.PrintWords Go.Proofs.YtgheopbdmijlkaaW.PrintLast Go.Proofs.YtgheopbdmijlkaaW.PrintMore
attribute [local go_sem] max2_int min2_int max_two min_two max_three min_three max_four min_four   -- for this text's walks alone
set_option linter.unusedVariables false
set_option linter.unusedSimpArgs false

/-! ### strings_Cut: function 53 -/
def strings_Cut.f (a0:ByteArray) (a1:ByteArray):Option (ByteArray × ByteArray × Bool):=(stringslite_Cut.f a0 a1).bind fun bt244=>(some (bt244.1,bt244.2.1,bt244.2.2))
set_option maxHeartbeats 8000000 in
set_option maxRecDepth 100000 in
theorem strings_Cut.calls (a0:ByteArray) (a1:ByteArray) (r1:ByteArray) (r2:ByteArray) (r3:Bool) (w:World) (h:strings_Cut.f a0 a1=some (r1,r2,r3)) :
  Calls Try.prog 53 #[.string a0,.string a1] w fun e w'=>e=.returned (.tuple #[.string r1,.string r2,.bool r3])∧Drawn0 w w':=by
 have H:((stringslite_Cut.f a0 a1).bind fun bt244=>(some (bt244.1,bt244.2.1,bt244.2.2)))=some (r1,r2,r3):=h
 clear h
 replace H:=Option.bind_eq_some_iff.mp H
 obtain ⟨⟨t244,t245,t246⟩,A30,H⟩:=H
 replace H:(some (t244,t245,t246))=some (r1,r2,r3):=H
 have A3:=Aside0.mk A30
 clear A30
 simp only [Option.some.injEq,Prod.mk.injEq] at H
 obtain ⟨rfl,rfl,rfl⟩:=H
 go_enter Try.func53,Try.ntmps53
 go_wp2_with (first|((with_reducible refine gate_callee (f:=71) rfl ?_);refine goesL_ (some 9) rfl rfl Try.func71 (by kernel_rfl) rfl #[.string a0,.string a1] rfl (by (try simp only [List.map_toArray,List.map_cons,List.map_nil]);first|done|rfl|(simp only [List.length_drop,List.length_take];rfl)) ?_;(with_reducible refine (stringslite_Cut.calls a0 a1 t244 t245 t246 _ A3.out).mono ?_);rintro e w' ⟨rfl,⟨nd,rfl⟩⟩;refine ⟨_,rfl,?_⟩))
 go_ret3
 exact ⟨by first|rfl|(simp;done)|(simp [*];done),by repeat (first|exact Drawn0.refl _|apply Drawn0.step)⟩

end Go.Proofs.Ytgheopbdmijlkaa.P

namespace Go.Proofs.Ytgheopbdmijlkaa.P
open Go.RowKit Go.Proofs.YtgheopbdmijlkaaW.PrintWords Go.Proofs.YtgheopbdmijlkaaW.PrintLast Go.Proofs.YtgheopbdmijlkaaW.PrintMore
attribute [local go_sem] max2_int min2_int max_two min_two max_three min_three max_four min_four   -- for this text's walks alone
set_option linter.unusedVariables false
set_option linter.unusedSimpArgs false

/-! ### impl_setOf: function 30 -/
def impl_setOf.f (k:Nat) (a0:ByteArray):Option (List Bool × List Bool × Bool):=(strings_Cut.f a0 (⟨#[40]⟩:ByteArray)).bind fun bt261=>((strings_CutSuffix.f bt261.2.1 (⟨#[41]⟩:ByteArray)).bind fun bt264=>((impl_signs.f k bt261.1).bind fun bt266=>((impl_signs.f k bt264.1).bind fun bt270=>(if bt261.2.2=true then (if bt264.2=true then (if bt266.2=true then (if bt270.2=true then (some (bt266.1,bt270.1,decide ((bt270.1.length:Int) > 0))) else (some (bt266.1,bt270.1,false))) else (some (bt266.1,bt270.1,false))) else (some (bt266.1,bt270.1,false))) else (some (bt266.1,bt270.1,false))))))
theorem impl_setOf.mono:∀ a0 k,LeO (impl_setOf.f k a0) (impl_setOf.f (k+1) a0):=by
 intro a0 k
 unfold impl_setOf.f
 repeat' first
   | (with_reducible exact impl_signs.mono _ _)
   | (with_reducible exact LeO.refl _)
   | (with_reducible exact LeO.none _)
   | (with_reducible refine LeO.ite ?_ ?_)
   | (with_reducible refine LeO.bind ?_ (fun _=>?_))
   | exact impl_signs.mono _ _
   | exact LeO.none _
   | refine LeO.ite ?_ ?_
   | refine LeO.bind ?_ (fun _=>?_)
set_option maxHeartbeats 8000000 in
set_option maxRecDepth 100000 in
theorem impl_setOf.calls (k:Nat) (a0:ByteArray) (r1:List Bool) (r2:List Bool) (r3:Bool) (w:World) (h:impl_setOf.f k a0=some (r1,r2,r3)) :
  Calls Try.prog 30 #[.string a0] w fun e w'=>∃ v0_ v1_:Value,e=.returned (.tuple #[.agg #[v0_,v1_],.bool r3])∧Kd.R Kd.bool 4 w' w.heap.size (fun k_=>some k_≠(v1_:Value).ownBlock) v0_ r1∧Kd.R Kd.bool 4 w' w.heap.size (fun k_=>some k_≠(v0_:Value).ownBlock) v1_ r2∧Below w.heap.size w w':=by
 have hu41:=Try.underlying41
 have HB:=Aside0.mk (Below.refl w.heap.size w)
 have H:((strings_Cut.f a0 (⟨#[40]⟩:ByteArray)).bind fun bt261=>((strings_CutSuffix.f bt261.2.1 (⟨#[41]⟩:ByteArray)).bind fun bt264=>((impl_signs.f k bt261.1).bind fun bt266=>((impl_signs.f k bt264.1).bind fun bt270=>(if bt261.2.2=true then (if bt264.2=true then (if bt266.2=true then (if bt270.2=true then (some (bt266.1,bt270.1,decide ((bt270.1.length:Int) > 0))) else (some (bt266.1,bt270.1,false))) else (some (bt266.1,bt270.1,false))) else (some (bt266.1,bt270.1,false))) else (some (bt266.1,bt270.1,false)))))))=some (r1,r2,r3):=h
 clear h
 replace H:=Option.bind_eq_some_iff.mp H
 obtain ⟨⟨t261,t262,t263⟩,A20,H⟩:=H
 replace H:((strings_CutSuffix.f t262 (⟨#[41]⟩:ByteArray)).bind fun bt264=>((impl_signs.f k t261).bind fun bt266=>((impl_signs.f k bt264.1).bind fun bt270=>(if t263=true then (if bt264.2=true then (if bt266.2=true then (if bt270.2=true then (some (bt266.1,bt270.1,decide ((bt270.1.length:Int) > 0))) else (some (bt266.1,bt270.1,false))) else (some (bt266.1,bt270.1,false))) else (some (bt266.1,bt270.1,false))) else (some (bt266.1,bt270.1,false))))))=some (r1,r2,r3):=H
 have A2:=Aside0.mk A20
 clear A20
 replace H:=Option.bind_eq_some_iff.mp H
 obtain ⟨⟨t264,t265⟩,A30,H⟩:=H
 replace H:((impl_signs.f k t261).bind fun bt266=>((impl_signs.f k t264).bind fun bt270=>(if t263=true then (if t265=true then (if bt266.2=true then (if bt270.2=true then (some (bt266.1,bt270.1,decide ((bt270.1.length:Int) > 0))) else (some (bt266.1,bt270.1,false))) else (some (bt266.1,bt270.1,false))) else (some (bt266.1,bt270.1,false))) else (some (bt266.1,bt270.1,false)))))=some (r1,r2,r3):=H
 have A3:=Aside0.mk A30
 clear A30
 replace H:=Option.bind_eq_some_iff.mp H
 obtain ⟨⟨t266,t267⟩,A40,H⟩:=H
 replace H:((impl_signs.f k t264).bind fun bt270=>(if t263=true then (if t265=true then (if t267=true then (if bt270.2=true then (some (t266,bt270.1,decide ((bt270.1.length:Int) > 0))) else (some (t266,bt270.1,false))) else (some (t266,bt270.1,false))) else (some (t266,bt270.1,false))) else (some (t266,bt270.1,false))))=some (r1,r2,r3):=H
 have A4:=Aside0.mk A40
 clear A40
 replace H:=Option.bind_eq_some_iff.mp H
 obtain ⟨⟨t270,t271⟩,A50,H⟩:=H
 replace H:(if t263=true then (if t265=true then (if t267=true then (if t271=true then (some (t266,t270,decide ((t270.length:Int) > 0))) else (some (t266,t270,false))) else (some (t266,t270,false))) else (some (t266,t270,false))) else (some (t266,t270,false)))=some (r1,r2,r3):=H
 have A5:=Aside0.mk A50
 clear A50
 by_cases c6:t263=true
 ·subst c6
  have H1:(if t265=true then (if t267=true then (if t271=true then (some (t266,t270,decide ((t270.length:Int) > 0))) else (some (t266,t270,false))) else (some (t266,t270,false))) else (some (t266,t270,false)))=some (r1,r2,r3):=by rw [if_pos rfl] at H;exact H
  clear H
  have H:=H1
  clear H1
  by_cases c7:t265=true
  ·subst c7
   have H1:(if t267=true then (if t271=true then (some (t266,t270,decide ((t270.length:Int) > 0))) else (some (t266,t270,false))) else (some (t266,t270,false)))=some (r1,r2,r3):=by rw [if_pos rfl] at H;exact H
   clear H
   have H:=H1
   clear H1
   by_cases c8:t267=true
   ·subst c8
    have H1:(if t271=true then (some (t266,t270,decide ((t270.length:Int) > 0))) else (some (t266,t270,false)))=some (r1,r2,r3):=by rw [if_pos rfl] at H;exact H
    clear H
    have H:=H1
    clear H1
    by_cases c9:t271=true
    ·subst c9
     have H1:(some (t266,t270,decide ((t270.length:Int) > 0)))=some (r1,r2,r3):=by rw [if_pos rfl] at H;exact H
     clear H
     have H:=H1
     clear H1
     simp only [Option.some.injEq,Prod.mk.injEq] at H
     obtain ⟨rfl,rfl,rfl⟩:=H
     go_enter Try.func30,Try.ntmps30
     go_wp2_with (first|((with_reducible refine gate_dst (N:=2) rfl ?_);(try (refine gate_guard (by rfl) ?_;dsimp only));refine box_event ?hg (N:=2) ?hd (cs:=#[.slice none 0 0,.slice none 0 0]) (t:=41) ?hr ?_;(case hd=>rfl);(case hg=>rfl);(case hr=>first|(go_simp;done)|(go_simp;rfl));intro gb260 hg w10 hbox hb;have n0_:=Aside0.mk (yP (by repeat (first|(with_reducible first|exact HB.out|apply yA|apply yB|apply yC)|exact HB.out)) hb);have n1_:=Aside0.mk (hbox);have n2_:=Aside0.mk ((by rw [hg];exact (yQ (by repeat (first|(with_reducible first|exact HB.out|apply yA|apply yB|apply yC)|exact HB.out))):w.heap.size≤gb260));have n3_:=Aside0.mk ((by rw [hg];exact (yQ (by repeat (first|(with_reducible first|exact HB.out|apply yA|apply yB|apply yC)|exact HB.out))):w.heap.size≤gb260));clear HB;have HB:=n0_;have BK260:=n1_;have GW260:=n2_;have GE260:=n3_;clear n0_ n1_ n2_ n3_;clear hb hbox hg)|((with_reducible refine gate_callee (f:=53) rfl ?_);refine goesL_ (some 15) rfl rfl Try.func53 (by kernel_rfl) rfl #[.string a0,.string (⟨#[40]⟩:ByteArray)] rfl (by (try simp only [List.map_toArray,List.map_cons,List.map_nil]);first|done|rfl|(simp only [List.length_drop,List.length_take];rfl)) ?_;(with_reducible refine (strings_Cut.calls a0 (⟨#[40]⟩:ByteArray) t261 t262 true _ A2.out).mono ?_);rintro e w' ⟨rfl,⟨nd,rfl⟩⟩;refine ⟨_,rfl,?_⟩;(try (rw [drewN_self w10];generalize hq_:World.drewN w10 _=w10;have n0_:Aside0 (w10.heap[gb260]?=some (.cells #[.slice none 0 0,.slice none 0 0] 41 (0,0))):=⟨by rw [← hq_];exact (by (with_reducible repeat (first|refine yE ?_ _|refine yF ?_|refine yG ?_ _));exact BK260.out)⟩;have n1_:Aside0 (Below w.heap.size w w10):=⟨by rw [← hq_];exact (by repeat (first|(with_reducible first|exact HB.out|apply yA|apply yB|apply yC|refine yD ?_ GE260.out)|exact HB.out))⟩;clear BK260 HB hq_;have BK260:=n0_;have HB:=n1_;clear n0_ n1_)))|((with_reducible refine gate_callee (f:=54) rfl ?_);refine goesL_ (some 21) rfl rfl Try.func54 (by kernel_rfl) rfl #[.string t262,.string (⟨#[41]⟩:ByteArray)] rfl (by (try simp only [List.map_toArray,List.map_cons,List.map_nil]);first|done|rfl|(simp only [List.length_drop,List.length_take];rfl)) ?_;(with_reducible refine (strings_CutSuffix.calls t262 (⟨#[41]⟩:ByteArray) t264 true _ A3.out).mono ?_);rintro e w' ⟨rfl,⟨nd,rfl⟩⟩;refine ⟨_,rfl,?_⟩;(try (rw [drewN_self w10];generalize hq_:World.drewN w10 _=w10;have n0_:Aside0 (w10.heap[gb260]?=some (.cells #[.slice none 0 0,.slice none 0 0] 41 (0,0))):=⟨by rw [← hq_];exact (by (with_reducible repeat (first|refine yE ?_ _|refine yF ?_|refine yG ?_ _));exact BK260.out)⟩;have n1_:Aside0 (Below w.heap.size w w10):=⟨by rw [← hq_];exact (by repeat (first|(with_reducible first|exact HB.out|apply yA|apply yB|apply yC|refine yD ?_ GE260.out)|exact HB.out))⟩;clear BK260 HB hq_;have BK260:=n0_;have HB:=n1_;clear n0_ n1_)))|((with_reducible refine gate_callee (f:=55) rfl ?_);refine goesL_ (some 26) rfl rfl Try.func55 (by kernel_rfl) rfl #[.string t261] rfl (by (try simp only [List.map_toArray,List.map_cons,List.map_nil]);first|done|rfl|(simp only [List.length_drop,List.length_take];rfl)) ?_;(with_reducible refine (impl_signs.calls k t261 t266 true _ A4.out).mono ?_);rintro e w11 ⟨v268,rfl,ho0,hb⟩;refine ⟨_,rfl,?_⟩;have n0_:=Aside0.mk (Kd.R_lower ho0 (yQ (by repeat (first|(with_reducible first|exact HB.out|apply yA|apply yB|apply yC|refine yD ?_ GE260.out)|exact HB.out))));have n1_:=Aside0.mk (blk_below (g:=gb260) (o:=.cells #[.slice none 0 0,.slice none 0 0] 41 (0,0)) (by (with_reducible repeat (first|refine yE ?_ _|refine yF ?_|refine yG ?_ _));exact BK260.out) hb);have n2_:=Aside0.mk (yP (by repeat (first|(with_reducible first|exact HB.out|apply yA|apply yB|apply yC|refine yD ?_ GE260.out)|exact HB.out)) hb);clear BK260;clear HB;have HO269:=n0_;have BK260:=n1_;have HB:=n2_;clear n0_ n1_ n2_;(try clear hb);(try clear hb2);(try clear hk);(try clear hi);(try clear ho0))|((with_reducible refine gate_callee (f:=55) rfl ?_);refine goesL_ (some 31) rfl rfl Try.func55 (by kernel_rfl) rfl #[.string t264] rfl (by (try simp only [List.map_toArray,List.map_cons,List.map_nil]);first|done|rfl|(simp only [List.length_drop,List.length_take];rfl)) ?_;(with_reducible refine (impl_signs.calls k t264 t270 true _ A5.out).mono ?_);rintro e w12 ⟨v272,rfl,ho0,hb⟩;refine ⟨_,rfl,?_⟩;have n0_:=Aside0.mk (Kd.R_elder' (by (with_reducible repeat (first|apply yH|apply yI|apply yJ));exact HO269.out) (Kd.R_base ho0) hb);have n1_:=Aside0.mk (Kd.R_lower (Kd.R_new' ho0 (Kd.R_lt (by (with_reducible repeat (first|apply yH|apply yI|apply yJ));exact HO269.out))) (yQ (by repeat (first|(with_reducible first|exact HB.out|apply yA|apply yB|apply yC|refine yD ?_ GE260.out)|exact HB.out))));have n2_:=Aside0.mk (blk_below (g:=gb260) (o:=.cells #[.slice none 0 0,.slice none 0 0] 41 (0,0)) (by (with_reducible repeat (first|refine yE ?_ _|refine yF ?_|refine yG ?_ _));exact BK260.out) hb);have n3_:=Aside0.mk (yP (by repeat (first|(with_reducible first|exact HB.out|apply yA|apply yB|apply yC|refine yD ?_ GE260.out)|exact HB.out)) hb);clear HO269;clear BK260;clear HB;have HO269:=n0_;have HO273:=n1_;have BK260:=n2_;have HB:=n3_;clear n0_ n1_ n2_ n3_;(try clear hb);(try clear hb2);(try clear hk);(try clear hi);(try clear ho0);obtain ⟨Ao13,co13,eo13⟩:=Kd.R_slice HO273.out;subst eo13;obtain ⟨Ao14,co14,eo14⟩:=Kd.R_slice HO269.out;subst eo14;have hcz15_0:w12.cell? ⟨gb260,0,none⟩=some (.slice none 0 0):=(blk_cell BK260.out 0).trans rfl;have hcz15_1:w12.cell? ⟨gb260,1,none⟩=some (.slice none 0 0):=(blk_cell BK260.out 1).trans rfl;have hfz15_0:=blk_frozen BK260.out 0;have hfz15_1:=blk_frozen BK260.out 1))
     refine bodyPost_ret (results_ct rfl _ _ gb260 41 #[.slice Ao14 t266.length co14,.slice Ao13 t270.length co13] (0,0) _ rfl (by (with_reducible repeat (first|refine yE ?_ _|refine yF ?_|refine yG ?_ _));refine blk_put (cs:=#[.slice Ao14 t266.length co14,.slice none 0 0]) ?_ 1 _ rfl;(with_reducible repeat (first|refine yE ?_ _|refine yF ?_|refine yG ?_ _));refine blk_put (cs:=#[.slice none 0 0,.slice none 0 0]) ?_ 0 _ rfl;(with_reducible repeat (first|refine yE ?_ _|refine yF ?_|refine yG ?_ _));exact BK260.out) Try.underlying41 rfl (by kernel_rfl)) rfl ?_
     exact ⟨_,_,by first|rfl|(simp [errW_none,errW_some]<;>rfl)|(simp [*,errW_none,errW_some]<;>rfl)|(simp [errW_none,errW_some];exact ⟨rfl,rfl⟩),by (with_reducible repeat (first|apply yH|apply yI|apply yJ));exact Kd.R_mono (Kd.R_far (p:=⟨gb260,1,none⟩) (Kd.R_far (p:=⟨gb260,0,none⟩) (Kd.R_types HO269.out BK260.out (by decide)) (fun _ hk=>hk.2) (.slice Ao14 t266.length co14)) (fun _ hk=>hk.2) (.slice Ao13 t270.length co13)) (fun _ hk=>hk.1.2),by (with_reducible repeat (first|apply yH|apply yI|apply yJ));exact Kd.R_mono (Kd.R_far (p:=⟨gb260,1,none⟩) (Kd.R_far (p:=⟨gb260,0,none⟩) (Kd.R_types HO273.out BK260.out (by decide)) (fun _ hk=>hk.2) (.slice Ao14 t266.length co14)) (fun _ hk=>hk.2) (.slice Ao13 t270.length co13)) (fun _ hk=>hk.1.2),by repeat (first|(with_reducible first|exact HB.out|apply yA|apply yB|apply yC|refine yD ?_ GE260.out)|exact HB.out)⟩
    ·replace c9:=Bool.eq_false_iff.mpr c9
     subst c9
     have H1:(some (t266,t270,false))=some (r1,r2,r3):=by rw [if_neg (show ¬ (false=true) by decide)] at H;exact H
     clear H
     have H:=H1
     clear H1
     simp only [Option.some.injEq,Prod.mk.injEq] at H
     obtain ⟨rfl,rfl,rfl⟩:=H
     go_enter Try.func30,Try.ntmps30
     go_wp2_with (first|((with_reducible refine gate_dst (N:=2) rfl ?_);(try (refine gate_guard (by rfl) ?_;dsimp only));refine box_event ?hg (N:=2) ?hd (cs:=#[.slice none 0 0,.slice none 0 0]) (t:=41) ?hr ?_;(case hd=>rfl);(case hg=>rfl);(case hr=>first|(go_simp;done)|(go_simp;rfl));intro gb260 hg w16 hbox hb;have n0_:=Aside0.mk (yP (by repeat (first|(with_reducible first|exact HB.out|apply yA|apply yB|apply yC)|exact HB.out)) hb);have n1_:=Aside0.mk (hbox);have n2_:=Aside0.mk ((by rw [hg];exact (yQ (by repeat (first|(with_reducible first|exact HB.out|apply yA|apply yB|apply yC)|exact HB.out))):w.heap.size≤gb260));have n3_:=Aside0.mk ((by rw [hg];exact (yQ (by repeat (first|(with_reducible first|exact HB.out|apply yA|apply yB|apply yC)|exact HB.out))):w.heap.size≤gb260));clear HB;have HB:=n0_;have BK260:=n1_;have GW260:=n2_;have GE260:=n3_;clear n0_ n1_ n2_ n3_;clear hb hbox hg)|((with_reducible refine gate_callee (f:=53) rfl ?_);refine goesL_ (some 15) rfl rfl Try.func53 (by kernel_rfl) rfl #[.string a0,.string (⟨#[40]⟩:ByteArray)] rfl (by (try simp only [List.map_toArray,List.map_cons,List.map_nil]);first|done|rfl|(simp only [List.length_drop,List.length_take];rfl)) ?_;(with_reducible refine (strings_Cut.calls a0 (⟨#[40]⟩:ByteArray) t261 t262 true _ A2.out).mono ?_);rintro e w' ⟨rfl,⟨nd,rfl⟩⟩;refine ⟨_,rfl,?_⟩;(try (rw [drewN_self w16];generalize hq_:World.drewN w16 _=w16;have n0_:Aside0 (w16.heap[gb260]?=some (.cells #[.slice none 0 0,.slice none 0 0] 41 (0,0))):=⟨by rw [← hq_];exact (by (with_reducible repeat (first|refine yE ?_ _|refine yF ?_|refine yG ?_ _));exact BK260.out)⟩;have n1_:Aside0 (Below w.heap.size w w16):=⟨by rw [← hq_];exact (by repeat (first|(with_reducible first|exact HB.out|apply yA|apply yB|apply yC|refine yD ?_ GE260.out)|exact HB.out))⟩;clear BK260 HB hq_;have BK260:=n0_;have HB:=n1_;clear n0_ n1_)))|((with_reducible refine gate_callee (f:=54) rfl ?_);refine goesL_ (some 21) rfl rfl Try.func54 (by kernel_rfl) rfl #[.string t262,.string (⟨#[41]⟩:ByteArray)] rfl (by (try simp only [List.map_toArray,List.map_cons,List.map_nil]);first|done|rfl|(simp only [List.length_drop,List.length_take];rfl)) ?_;(with_reducible refine (strings_CutSuffix.calls t262 (⟨#[41]⟩:ByteArray) t264 true _ A3.out).mono ?_);rintro e w' ⟨rfl,⟨nd,rfl⟩⟩;refine ⟨_,rfl,?_⟩;(try (rw [drewN_self w16];generalize hq_:World.drewN w16 _=w16;have n0_:Aside0 (w16.heap[gb260]?=some (.cells #[.slice none 0 0,.slice none 0 0] 41 (0,0))):=⟨by rw [← hq_];exact (by (with_reducible repeat (first|refine yE ?_ _|refine yF ?_|refine yG ?_ _));exact BK260.out)⟩;have n1_:Aside0 (Below w.heap.size w w16):=⟨by rw [← hq_];exact (by repeat (first|(with_reducible first|exact HB.out|apply yA|apply yB|apply yC|refine yD ?_ GE260.out)|exact HB.out))⟩;clear BK260 HB hq_;have BK260:=n0_;have HB:=n1_;clear n0_ n1_)))|((with_reducible refine gate_callee (f:=55) rfl ?_);refine goesL_ (some 26) rfl rfl Try.func55 (by kernel_rfl) rfl #[.string t261] rfl (by (try simp only [List.map_toArray,List.map_cons,List.map_nil]);first|done|rfl|(simp only [List.length_drop,List.length_take];rfl)) ?_;(with_reducible refine (impl_signs.calls k t261 t266 true _ A4.out).mono ?_);rintro e w17 ⟨v268,rfl,ho0,hb⟩;refine ⟨_,rfl,?_⟩;have n0_:=Aside0.mk (Kd.R_lower ho0 (yQ (by repeat (first|(with_reducible first|exact HB.out|apply yA|apply yB|apply yC|refine yD ?_ GE260.out)|exact HB.out))));have n1_:=Aside0.mk (blk_below (g:=gb260) (o:=.cells #[.slice none 0 0,.slice none 0 0] 41 (0,0)) (by (with_reducible repeat (first|refine yE ?_ _|refine yF ?_|refine yG ?_ _));exact BK260.out) hb);have n2_:=Aside0.mk (yP (by repeat (first|(with_reducible first|exact HB.out|apply yA|apply yB|apply yC|refine yD ?_ GE260.out)|exact HB.out)) hb);clear BK260;clear HB;have HO269:=n0_;have BK260:=n1_;have HB:=n2_;clear n0_ n1_ n2_;(try clear hb);(try clear hb2);(try clear hk);(try clear hi);(try clear ho0))|((with_reducible refine gate_callee (f:=55) rfl ?_);refine goesL_ (some 31) rfl rfl Try.func55 (by kernel_rfl) rfl #[.string t264] rfl (by (try simp only [List.map_toArray,List.map_cons,List.map_nil]);first|done|rfl|(simp only [List.length_drop,List.length_take];rfl)) ?_;(with_reducible refine (impl_signs.calls k t264 t270 false _ A5.out).mono ?_);rintro e w18 ⟨v272,rfl,ho0,hb⟩;refine ⟨_,rfl,?_⟩;have n0_:=Aside0.mk (Kd.R_elder' (by (with_reducible repeat (first|apply yH|apply yI|apply yJ));exact HO269.out) (Kd.R_base ho0) hb);have n1_:=Aside0.mk (Kd.R_lower (Kd.R_new' ho0 (Kd.R_lt (by (with_reducible repeat (first|apply yH|apply yI|apply yJ));exact HO269.out))) (yQ (by repeat (first|(with_reducible first|exact HB.out|apply yA|apply yB|apply yC|refine yD ?_ GE260.out)|exact HB.out))));have n2_:=Aside0.mk (blk_below (g:=gb260) (o:=.cells #[.slice none 0 0,.slice none 0 0] 41 (0,0)) (by (with_reducible repeat (first|refine yE ?_ _|refine yF ?_|refine yG ?_ _));exact BK260.out) hb);have n3_:=Aside0.mk (yP (by repeat (first|(with_reducible first|exact HB.out|apply yA|apply yB|apply yC|refine yD ?_ GE260.out)|exact HB.out)) hb);clear HO269;clear BK260;clear HB;have HO269:=n0_;have HO273:=n1_;have BK260:=n2_;have HB:=n3_;clear n0_ n1_ n2_ n3_;(try clear hb);(try clear hb2);(try clear hk);(try clear hi);(try clear ho0);obtain ⟨Ao19,co19,eo19⟩:=Kd.R_slice HO273.out;subst eo19;obtain ⟨Ao20,co20,eo20⟩:=Kd.R_slice HO269.out;subst eo20;have hcz21_0:w18.cell? ⟨gb260,0,none⟩=some (.slice none 0 0):=(blk_cell BK260.out 0).trans rfl;have hcz21_1:w18.cell? ⟨gb260,1,none⟩=some (.slice none 0 0):=(blk_cell BK260.out 1).trans rfl;have hfz21_0:=blk_frozen BK260.out 0;have hfz21_1:=blk_frozen BK260.out 1))
     refine bodyPost_ret (results_ct rfl _ _ gb260 41 #[.slice Ao20 t266.length co20,.slice Ao19 t270.length co19] (0,0) _ rfl (by (with_reducible repeat (first|refine yE ?_ _|refine yF ?_|refine yG ?_ _));refine blk_put (cs:=#[.slice Ao20 t266.length co20,.slice none 0 0]) ?_ 1 _ rfl;(with_reducible repeat (first|refine yE ?_ _|refine yF ?_|refine yG ?_ _));refine blk_put (cs:=#[.slice none 0 0,.slice none 0 0]) ?_ 0 _ rfl;(with_reducible repeat (first|refine yE ?_ _|refine yF ?_|refine yG ?_ _));exact BK260.out) Try.underlying41 rfl (by kernel_rfl)) rfl ?_
     exact ⟨_,_,by first|rfl|(simp [errW_none,errW_some]<;>rfl)|(simp [*,errW_none,errW_some]<;>rfl)|(simp [errW_none,errW_some];exact ⟨rfl,rfl⟩),by (with_reducible repeat (first|apply yH|apply yI|apply yJ));exact Kd.R_mono (Kd.R_far (p:=⟨gb260,1,none⟩) (Kd.R_far (p:=⟨gb260,0,none⟩) (Kd.R_types HO269.out BK260.out (by decide)) (fun _ hk=>hk.2) (.slice Ao20 t266.length co20)) (fun _ hk=>hk.2) (.slice Ao19 t270.length co19)) (fun _ hk=>hk.1.2),by (with_reducible repeat (first|apply yH|apply yI|apply yJ));exact Kd.R_mono (Kd.R_far (p:=⟨gb260,1,none⟩) (Kd.R_far (p:=⟨gb260,0,none⟩) (Kd.R_types HO273.out BK260.out (by decide)) (fun _ hk=>hk.2) (.slice Ao20 t266.length co20)) (fun _ hk=>hk.2) (.slice Ao19 t270.length co19)) (fun _ hk=>hk.1.2),by repeat (first|(with_reducible first|exact HB.out|apply yA|apply yB|apply yC|refine yD ?_ GE260.out)|exact HB.out)⟩
   ·replace c8:=Bool.eq_false_iff.mpr c8
    subst c8
    have H1:(some (t266,t270,false))=some (r1,r2,r3):=by rw [if_neg (show ¬ (false=true) by decide)] at H;exact H
    clear H
    have H:=H1
    clear H1
    simp only [Option.some.injEq,Prod.mk.injEq] at H
    obtain ⟨rfl,rfl,rfl⟩:=H
    go_enter Try.func30,Try.ntmps30
    go_wp2_with (first|((with_reducible refine gate_dst (N:=2) rfl ?_);(try (refine gate_guard (by rfl) ?_;dsimp only));refine box_event ?hg (N:=2) ?hd (cs:=#[.slice none 0 0,.slice none 0 0]) (t:=41) ?hr ?_;(case hd=>rfl);(case hg=>rfl);(case hr=>first|(go_simp;done)|(go_simp;rfl));intro gb260 hg w22 hbox hb;have n0_:=Aside0.mk (yP (by repeat (first|(with_reducible first|exact HB.out|apply yA|apply yB|apply yC)|exact HB.out)) hb);have n1_:=Aside0.mk (hbox);have n2_:=Aside0.mk ((by rw [hg];exact (yQ (by repeat (first|(with_reducible first|exact HB.out|apply yA|apply yB|apply yC)|exact HB.out))):w.heap.size≤gb260));have n3_:=Aside0.mk ((by rw [hg];exact (yQ (by repeat (first|(with_reducible first|exact HB.out|apply yA|apply yB|apply yC)|exact HB.out))):w.heap.size≤gb260));clear HB;have HB:=n0_;have BK260:=n1_;have GW260:=n2_;have GE260:=n3_;clear n0_ n1_ n2_ n3_;clear hb hbox hg)|((with_reducible refine gate_callee (f:=53) rfl ?_);refine goesL_ (some 15) rfl rfl Try.func53 (by kernel_rfl) rfl #[.string a0,.string (⟨#[40]⟩:ByteArray)] rfl (by (try simp only [List.map_toArray,List.map_cons,List.map_nil]);first|done|rfl|(simp only [List.length_drop,List.length_take];rfl)) ?_;(with_reducible refine (strings_Cut.calls a0 (⟨#[40]⟩:ByteArray) t261 t262 true _ A2.out).mono ?_);rintro e w' ⟨rfl,⟨nd,rfl⟩⟩;refine ⟨_,rfl,?_⟩;(try (rw [drewN_self w22];generalize hq_:World.drewN w22 _=w22;have n0_:Aside0 (w22.heap[gb260]?=some (.cells #[.slice none 0 0,.slice none 0 0] 41 (0,0))):=⟨by rw [← hq_];exact (by (with_reducible repeat (first|refine yE ?_ _|refine yF ?_|refine yG ?_ _));exact BK260.out)⟩;have n1_:Aside0 (Below w.heap.size w w22):=⟨by rw [← hq_];exact (by repeat (first|(with_reducible first|exact HB.out|apply yA|apply yB|apply yC|refine yD ?_ GE260.out)|exact HB.out))⟩;clear BK260 HB hq_;have BK260:=n0_;have HB:=n1_;clear n0_ n1_)))|((with_reducible refine gate_callee (f:=54) rfl ?_);refine goesL_ (some 21) rfl rfl Try.func54 (by kernel_rfl) rfl #[.string t262,.string (⟨#[41]⟩:ByteArray)] rfl (by (try simp only [List.map_toArray,List.map_cons,List.map_nil]);first|done|rfl|(simp only [List.length_drop,List.length_take];rfl)) ?_;(with_reducible refine (strings_CutSuffix.calls t262 (⟨#[41]⟩:ByteArray) t264 true _ A3.out).mono ?_);rintro e w' ⟨rfl,⟨nd,rfl⟩⟩;refine ⟨_,rfl,?_⟩;(try (rw [drewN_self w22];generalize hq_:World.drewN w22 _=w22;have n0_:Aside0 (w22.heap[gb260]?=some (.cells #[.slice none 0 0,.slice none 0 0] 41 (0,0))):=⟨by rw [← hq_];exact (by (with_reducible repeat (first|refine yE ?_ _|refine yF ?_|refine yG ?_ _));exact BK260.out)⟩;have n1_:Aside0 (Below w.heap.size w w22):=⟨by rw [← hq_];exact (by repeat (first|(with_reducible first|exact HB.out|apply yA|apply yB|apply yC|refine yD ?_ GE260.out)|exact HB.out))⟩;clear BK260 HB hq_;have BK260:=n0_;have HB:=n1_;clear n0_ n1_)))|((with_reducible refine gate_callee (f:=55) rfl ?_);refine goesL_ (some 26) rfl rfl Try.func55 (by kernel_rfl) rfl #[.string t261] rfl (by (try simp only [List.map_toArray,List.map_cons,List.map_nil]);first|done|rfl|(simp only [List.length_drop,List.length_take];rfl)) ?_;(with_reducible refine (impl_signs.calls k t261 t266 false _ A4.out).mono ?_);rintro e w23 ⟨v268,rfl,ho0,hb⟩;refine ⟨_,rfl,?_⟩;have n0_:=Aside0.mk (Kd.R_lower ho0 (yQ (by repeat (first|(with_reducible first|exact HB.out|apply yA|apply yB|apply yC|refine yD ?_ GE260.out)|exact HB.out))));have n1_:=Aside0.mk (blk_below (g:=gb260) (o:=.cells #[.slice none 0 0,.slice none 0 0] 41 (0,0)) (by (with_reducible repeat (first|refine yE ?_ _|refine yF ?_|refine yG ?_ _));exact BK260.out) hb);have n2_:=Aside0.mk (yP (by repeat (first|(with_reducible first|exact HB.out|apply yA|apply yB|apply yC|refine yD ?_ GE260.out)|exact HB.out)) hb);clear BK260;clear HB;have HO269:=n0_;have BK260:=n1_;have HB:=n2_;clear n0_ n1_ n2_;(try clear hb);(try clear hb2);(try clear hk);(try clear hi);(try clear ho0))|((with_reducible refine gate_callee (f:=55) rfl ?_);refine goesL_ (some 31) rfl rfl Try.func55 (by kernel_rfl) rfl #[.string t264] rfl (by (try simp only [List.map_toArray,List.map_cons,List.map_nil]);first|done|rfl|(simp only [List.length_drop,List.length_take];rfl)) ?_;(with_reducible refine (impl_signs.calls k t264 t270 t271 _ A5.out).mono ?_);rintro e w24 ⟨v272,rfl,ho0,hb⟩;refine ⟨_,rfl,?_⟩;have n0_:=Aside0.mk (Kd.R_elder' (by (with_reducible repeat (first|apply yH|apply yI|apply yJ));exact HO269.out) (Kd.R_base ho0) hb);have n1_:=Aside0.mk (Kd.R_lower (Kd.R_new' ho0 (Kd.R_lt (by (with_reducible repeat (first|apply yH|apply yI|apply yJ));exact HO269.out))) (yQ (by repeat (first|(with_reducible first|exact HB.out|apply yA|apply yB|apply yC|refine yD ?_ GE260.out)|exact HB.out))));have n2_:=Aside0.mk (blk_below (g:=gb260) (o:=.cells #[.slice none 0 0,.slice none 0 0] 41 (0,0)) (by (with_reducible repeat (first|refine yE ?_ _|refine yF ?_|refine yG ?_ _));exact BK260.out) hb);have n3_:=Aside0.mk (yP (by repeat (first|(with_reducible first|exact HB.out|apply yA|apply yB|apply yC|refine yD ?_ GE260.out)|exact HB.out)) hb);clear HO269;clear BK260;clear HB;have HO269:=n0_;have HO273:=n1_;have BK260:=n2_;have HB:=n3_;clear n0_ n1_ n2_ n3_;(try clear hb);(try clear hb2);(try clear hk);(try clear hi);(try clear ho0);obtain ⟨Ao25,co25,eo25⟩:=Kd.R_slice HO273.out;subst eo25;obtain ⟨Ao26,co26,eo26⟩:=Kd.R_slice HO269.out;subst eo26;have hcz27_0:w24.cell? ⟨gb260,0,none⟩=some (.slice none 0 0):=(blk_cell BK260.out 0).trans rfl;have hcz27_1:w24.cell? ⟨gb260,1,none⟩=some (.slice none 0 0):=(blk_cell BK260.out 1).trans rfl;have hfz27_0:=blk_frozen BK260.out 0;have hfz27_1:=blk_frozen BK260.out 1))
    refine bodyPost_ret (results_ct rfl _ _ gb260 41 #[.slice Ao26 t266.length co26,.slice Ao25 t270.length co25] (0,0) _ rfl (by (with_reducible repeat (first|refine yE ?_ _|refine yF ?_|refine yG ?_ _));refine blk_put (cs:=#[.slice Ao26 t266.length co26,.slice none 0 0]) ?_ 1 _ rfl;(with_reducible repeat (first|refine yE ?_ _|refine yF ?_|refine yG ?_ _));refine blk_put (cs:=#[.slice none 0 0,.slice none 0 0]) ?_ 0 _ rfl;(with_reducible repeat (first|refine yE ?_ _|refine yF ?_|refine yG ?_ _));exact BK260.out) Try.underlying41 rfl (by kernel_rfl)) rfl ?_
    exact ⟨_,_,by first|rfl|(simp [errW_none,errW_some]<;>rfl)|(simp [*,errW_none,errW_some]<;>rfl)|(simp [errW_none,errW_some];exact ⟨rfl,rfl⟩),by (with_reducible repeat (first|apply yH|apply yI|apply yJ));exact Kd.R_mono (Kd.R_far (p:=⟨gb260,1,none⟩) (Kd.R_far (p:=⟨gb260,0,none⟩) (Kd.R_types HO269.out BK260.out (by decide)) (fun _ hk=>hk.2) (.slice Ao26 t266.length co26)) (fun _ hk=>hk.2) (.slice Ao25 t270.length co25)) (fun _ hk=>hk.1.2),by (with_reducible repeat (first|apply yH|apply yI|apply yJ));exact Kd.R_mono (Kd.R_far (p:=⟨gb260,1,none⟩) (Kd.R_far (p:=⟨gb260,0,none⟩) (Kd.R_types HO273.out BK260.out (by decide)) (fun _ hk=>hk.2) (.slice Ao26 t266.length co26)) (fun _ hk=>hk.2) (.slice Ao25 t270.length co25)) (fun _ hk=>hk.1.2),by repeat (first|(with_reducible first|exact HB.out|apply yA|apply yB|apply yC|refine yD ?_ GE260.out)|exact HB.out)⟩
  ·replace c7:=Bool.eq_false_iff.mpr c7
   subst c7
   have H1:(some (t266,t270,false))=some (r1,r2,r3):=by rw [if_neg (show ¬ (false=true) by decide)] at H;exact H
   clear H
   have H:=H1
   clear H1
   simp only [Option.some.injEq,Prod.mk.injEq] at H
   obtain ⟨rfl,rfl,rfl⟩:=H
   go_enter Try.func30,Try.ntmps30
   go_wp2_with (first|((with_reducible refine gate_dst (N:=2) rfl ?_);(try (refine gate_guard (by rfl) ?_;dsimp only));refine box_event ?hg (N:=2) ?hd (cs:=#[.slice none 0 0,.slice none 0 0]) (t:=41) ?hr ?_;(case hd=>rfl);(case hg=>rfl);(case hr=>first|(go_simp;done)|(go_simp;rfl));intro gb260 hg w28 hbox hb;have n0_:=Aside0.mk (yP (by repeat (first|(with_reducible first|exact HB.out|apply yA|apply yB|apply yC)|exact HB.out)) hb);have n1_:=Aside0.mk (hbox);have n2_:=Aside0.mk ((by rw [hg];exact (yQ (by repeat (first|(with_reducible first|exact HB.out|apply yA|apply yB|apply yC)|exact HB.out))):w.heap.size≤gb260));have n3_:=Aside0.mk ((by rw [hg];exact (yQ (by repeat (first|(with_reducible first|exact HB.out|apply yA|apply yB|apply yC)|exact HB.out))):w.heap.size≤gb260));clear HB;have HB:=n0_;have BK260:=n1_;have GW260:=n2_;have GE260:=n3_;clear n0_ n1_ n2_ n3_;clear hb hbox hg)|((with_reducible refine gate_callee (f:=53) rfl ?_);refine goesL_ (some 15) rfl rfl Try.func53 (by kernel_rfl) rfl #[.string a0,.string (⟨#[40]⟩:ByteArray)] rfl (by (try simp only [List.map_toArray,List.map_cons,List.map_nil]);first|done|rfl|(simp only [List.length_drop,List.length_take];rfl)) ?_;(with_reducible refine (strings_Cut.calls a0 (⟨#[40]⟩:ByteArray) t261 t262 true _ A2.out).mono ?_);rintro e w' ⟨rfl,⟨nd,rfl⟩⟩;refine ⟨_,rfl,?_⟩;(try (rw [drewN_self w28];generalize hq_:World.drewN w28 _=w28;have n0_:Aside0 (w28.heap[gb260]?=some (.cells #[.slice none 0 0,.slice none 0 0] 41 (0,0))):=⟨by rw [← hq_];exact (by (with_reducible repeat (first|refine yE ?_ _|refine yF ?_|refine yG ?_ _));exact BK260.out)⟩;have n1_:Aside0 (Below w.heap.size w w28):=⟨by rw [← hq_];exact (by repeat (first|(with_reducible first|exact HB.out|apply yA|apply yB|apply yC|refine yD ?_ GE260.out)|exact HB.out))⟩;clear BK260 HB hq_;have BK260:=n0_;have HB:=n1_;clear n0_ n1_)))|((with_reducible refine gate_callee (f:=54) rfl ?_);refine goesL_ (some 21) rfl rfl Try.func54 (by kernel_rfl) rfl #[.string t262,.string (⟨#[41]⟩:ByteArray)] rfl (by (try simp only [List.map_toArray,List.map_cons,List.map_nil]);first|done|rfl|(simp only [List.length_drop,List.length_take];rfl)) ?_;(with_reducible refine (strings_CutSuffix.calls t262 (⟨#[41]⟩:ByteArray) t264 false _ A3.out).mono ?_);rintro e w' ⟨rfl,⟨nd,rfl⟩⟩;refine ⟨_,rfl,?_⟩;(try (rw [drewN_self w28];generalize hq_:World.drewN w28 _=w28;have n0_:Aside0 (w28.heap[gb260]?=some (.cells #[.slice none 0 0,.slice none 0 0] 41 (0,0))):=⟨by rw [← hq_];exact (by (with_reducible repeat (first|refine yE ?_ _|refine yF ?_|refine yG ?_ _));exact BK260.out)⟩;have n1_:Aside0 (Below w.heap.size w w28):=⟨by rw [← hq_];exact (by repeat (first|(with_reducible first|exact HB.out|apply yA|apply yB|apply yC|refine yD ?_ GE260.out)|exact HB.out))⟩;clear BK260 HB hq_;have BK260:=n0_;have HB:=n1_;clear n0_ n1_)))|((with_reducible refine gate_callee (f:=55) rfl ?_);refine goesL_ (some 26) rfl rfl Try.func55 (by kernel_rfl) rfl #[.string t261] rfl (by (try simp only [List.map_toArray,List.map_cons,List.map_nil]);first|done|rfl|(simp only [List.length_drop,List.length_take];rfl)) ?_;(with_reducible refine (impl_signs.calls k t261 t266 t267 _ A4.out).mono ?_);rintro e w29 ⟨v268,rfl,ho0,hb⟩;refine ⟨_,rfl,?_⟩;have n0_:=Aside0.mk (Kd.R_lower ho0 (yQ (by repeat (first|(with_reducible first|exact HB.out|apply yA|apply yB|apply yC|refine yD ?_ GE260.out)|exact HB.out))));have n1_:=Aside0.mk (blk_below (g:=gb260) (o:=.cells #[.slice none 0 0,.slice none 0 0] 41 (0,0)) (by (with_reducible repeat (first|refine yE ?_ _|refine yF ?_|refine yG ?_ _));exact BK260.out) hb);have n2_:=Aside0.mk (yP (by repeat (first|(with_reducible first|exact HB.out|apply yA|apply yB|apply yC|refine yD ?_ GE260.out)|exact HB.out)) hb);clear BK260;clear HB;have HO269:=n0_;have BK260:=n1_;have HB:=n2_;clear n0_ n1_ n2_;(try clear hb);(try clear hb2);(try clear hk);(try clear hi);(try clear ho0))|((with_reducible refine gate_callee (f:=55) rfl ?_);refine goesL_ (some 31) rfl rfl Try.func55 (by kernel_rfl) rfl #[.string t264] rfl (by (try simp only [List.map_toArray,List.map_cons,List.map_nil]);first|done|rfl|(simp only [List.length_drop,List.length_take];rfl)) ?_;(with_reducible refine (impl_signs.calls k t264 t270 t271 _ A5.out).mono ?_);rintro e w30 ⟨v272,rfl,ho0,hb⟩;refine ⟨_,rfl,?_⟩;have n0_:=Aside0.mk (Kd.R_elder' (by (with_reducible repeat (first|apply yH|apply yI|apply yJ));exact HO269.out) (Kd.R_base ho0) hb);have n1_:=Aside0.mk (Kd.R_lower (Kd.R_new' ho0 (Kd.R_lt (by (with_reducible repeat (first|apply yH|apply yI|apply yJ));exact HO269.out))) (yQ (by repeat (first|(with_reducible first|exact HB.out|apply yA|apply yB|apply yC|refine yD ?_ GE260.out)|exact HB.out))));have n2_:=Aside0.mk (blk_below (g:=gb260) (o:=.cells #[.slice none 0 0,.slice none 0 0] 41 (0,0)) (by (with_reducible repeat (first|refine yE ?_ _|refine yF ?_|refine yG ?_ _));exact BK260.out) hb);have n3_:=Aside0.mk (yP (by repeat (first|(with_reducible first|exact HB.out|apply yA|apply yB|apply yC|refine yD ?_ GE260.out)|exact HB.out)) hb);clear HO269;clear BK260;clear HB;have HO269:=n0_;have HO273:=n1_;have BK260:=n2_;have HB:=n3_;clear n0_ n1_ n2_ n3_;(try clear hb);(try clear hb2);(try clear hk);(try clear hi);(try clear ho0);obtain ⟨Ao31,co31,eo31⟩:=Kd.R_slice HO273.out;subst eo31;obtain ⟨Ao32,co32,eo32⟩:=Kd.R_slice HO269.out;subst eo32;have hcz33_0:w30.cell? ⟨gb260,0,none⟩=some (.slice none 0 0):=(blk_cell BK260.out 0).trans rfl;have hcz33_1:w30.cell? ⟨gb260,1,none⟩=some (.slice none 0 0):=(blk_cell BK260.out 1).trans rfl;have hfz33_0:=blk_frozen BK260.out 0;have hfz33_1:=blk_frozen BK260.out 1))
   refine bodyPost_ret (results_ct rfl _ _ gb260 41 #[.slice Ao32 t266.length co32,.slice Ao31 t270.length co31] (0,0) _ rfl (by (with_reducible repeat (first|refine yE ?_ _|refine yF ?_|refine yG ?_ _));refine blk_put (cs:=#[.slice Ao32 t266.length co32,.slice none 0 0]) ?_ 1 _ rfl;(with_reducible repeat (first|refine yE ?_ _|refine yF ?_|refine yG ?_ _));refine blk_put (cs:=#[.slice none 0 0,.slice none 0 0]) ?_ 0 _ rfl;(with_reducible repeat (first|refine yE ?_ _|refine yF ?_|refine yG ?_ _));exact BK260.out) Try.underlying41 rfl (by kernel_rfl)) rfl ?_
   exact ⟨_,_,by first|rfl|(simp [errW_none,errW_some]<;>rfl)|(simp [*,errW_none,errW_some]<;>rfl)|(simp [errW_none,errW_some];exact ⟨rfl,rfl⟩),by (with_reducible repeat (first|apply yH|apply yI|apply yJ));exact Kd.R_mono (Kd.R_far (p:=⟨gb260,1,none⟩) (Kd.R_far (p:=⟨gb260,0,none⟩) (Kd.R_types HO269.out BK260.out (by decide)) (fun _ hk=>hk.2) (.slice Ao32 t266.length co32)) (fun _ hk=>hk.2) (.slice Ao31 t270.length co31)) (fun _ hk=>hk.1.2),by (with_reducible repeat (first|apply yH|apply yI|apply yJ));exact Kd.R_mono (Kd.R_far (p:=⟨gb260,1,none⟩) (Kd.R_far (p:=⟨gb260,0,none⟩) (Kd.R_types HO273.out BK260.out (by decide)) (fun _ hk=>hk.2) (.slice Ao32 t266.length co32)) (fun _ hk=>hk.2) (.slice Ao31 t270.length co31)) (fun _ hk=>hk.1.2),by repeat (first|(with_reducible first|exact HB.out|apply yA|apply yB|apply yC|refine yD ?_ GE260.out)|exact HB.out)⟩
 ·replace c6:=Bool.eq_false_iff.mpr c6
  subst c6
  have H1:(some (t266,t270,false))=some (r1,r2,r3):=by rw [if_neg (show ¬ (false=true) by decide)] at H;exact H
  clear H
  have H:=H1
  clear H1
  simp only [Option.some.injEq,Prod.mk.injEq] at H
  obtain ⟨rfl,rfl,rfl⟩:=H
  go_enter Try.func30,Try.ntmps30
  go_wp2_with (first|((with_reducible refine gate_dst (N:=2) rfl ?_);(try (refine gate_guard (by rfl) ?_;dsimp only));refine box_event ?hg (N:=2) ?hd (cs:=#[.slice none 0 0,.slice none 0 0]) (t:=41) ?hr ?_;(case hd=>rfl);(case hg=>rfl);(case hr=>first|(go_simp;done)|(go_simp;rfl));intro gb260 hg w34 hbox hb;have n0_:=Aside0.mk (yP (by repeat (first|(with_reducible first|exact HB.out|apply yA|apply yB|apply yC)|exact HB.out)) hb);have n1_:=Aside0.mk (hbox);have n2_:=Aside0.mk ((by rw [hg];exact (yQ (by repeat (first|(with_reducible first|exact HB.out|apply yA|apply yB|apply yC)|exact HB.out))):w.heap.size≤gb260));have n3_:=Aside0.mk ((by rw [hg];exact (yQ (by repeat (first|(with_reducible first|exact HB.out|apply yA|apply yB|apply yC)|exact HB.out))):w.heap.size≤gb260));clear HB;have HB:=n0_;have BK260:=n1_;have GW260:=n2_;have GE260:=n3_;clear n0_ n1_ n2_ n3_;clear hb hbox hg)|((with_reducible refine gate_callee (f:=53) rfl ?_);refine goesL_ (some 15) rfl rfl Try.func53 (by kernel_rfl) rfl #[.string a0,.string (⟨#[40]⟩:ByteArray)] rfl (by (try simp only [List.map_toArray,List.map_cons,List.map_nil]);first|done|rfl|(simp only [List.length_drop,List.length_take];rfl)) ?_;(with_reducible refine (strings_Cut.calls a0 (⟨#[40]⟩:ByteArray) t261 t262 false _ A2.out).mono ?_);rintro e w' ⟨rfl,⟨nd,rfl⟩⟩;refine ⟨_,rfl,?_⟩;(try (rw [drewN_self w34];generalize hq_:World.drewN w34 _=w34;have n0_:Aside0 (w34.heap[gb260]?=some (.cells #[.slice none 0 0,.slice none 0 0] 41 (0,0))):=⟨by rw [← hq_];exact (by (with_reducible repeat (first|refine yE ?_ _|refine yF ?_|refine yG ?_ _));exact BK260.out)⟩;have n1_:Aside0 (Below w.heap.size w w34):=⟨by rw [← hq_];exact (by repeat (first|(with_reducible first|exact HB.out|apply yA|apply yB|apply yC|refine yD ?_ GE260.out)|exact HB.out))⟩;clear BK260 HB hq_;have BK260:=n0_;have HB:=n1_;clear n0_ n1_)))|((with_reducible refine gate_callee (f:=54) rfl ?_);refine goesL_ (some 21) rfl rfl Try.func54 (by kernel_rfl) rfl #[.string t262,.string (⟨#[41]⟩:ByteArray)] rfl (by (try simp only [List.map_toArray,List.map_cons,List.map_nil]);first|done|rfl|(simp only [List.length_drop,List.length_take];rfl)) ?_;(with_reducible refine (strings_CutSuffix.calls t262 (⟨#[41]⟩:ByteArray) t264 t265 _ A3.out).mono ?_);rintro e w' ⟨rfl,⟨nd,rfl⟩⟩;refine ⟨_,rfl,?_⟩;(try (rw [drewN_self w34];generalize hq_:World.drewN w34 _=w34;have n0_:Aside0 (w34.heap[gb260]?=some (.cells #[.slice none 0 0,.slice none 0 0] 41 (0,0))):=⟨by rw [← hq_];exact (by (with_reducible repeat (first|refine yE ?_ _|refine yF ?_|refine yG ?_ _));exact BK260.out)⟩;have n1_:Aside0 (Below w.heap.size w w34):=⟨by rw [← hq_];exact (by repeat (first|(with_reducible first|exact HB.out|apply yA|apply yB|apply yC|refine yD ?_ GE260.out)|exact HB.out))⟩;clear BK260 HB hq_;have BK260:=n0_;have HB:=n1_;clear n0_ n1_)))|((with_reducible refine gate_callee (f:=55) rfl ?_);refine goesL_ (some 26) rfl rfl Try.func55 (by kernel_rfl) rfl #[.string t261] rfl (by (try simp only [List.map_toArray,List.map_cons,List.map_nil]);first|done|rfl|(simp only [List.length_drop,List.length_take];rfl)) ?_;(with_reducible refine (impl_signs.calls k t261 t266 t267 _ A4.out).mono ?_);rintro e w35 ⟨v268,rfl,ho0,hb⟩;refine ⟨_,rfl,?_⟩;have n0_:=Aside0.mk (Kd.R_lower ho0 (yQ (by repeat (first|(with_reducible first|exact HB.out|apply yA|apply yB|apply yC|refine yD ?_ GE260.out)|exact HB.out))));have n1_:=Aside0.mk (blk_below (g:=gb260) (o:=.cells #[.slice none 0 0,.slice none 0 0] 41 (0,0)) (by (with_reducible repeat (first|refine yE ?_ _|refine yF ?_|refine yG ?_ _));exact BK260.out) hb);have n2_:=Aside0.mk (yP (by repeat (first|(with_reducible first|exact HB.out|apply yA|apply yB|apply yC|refine yD ?_ GE260.out)|exact HB.out)) hb);clear BK260;clear HB;have HO269:=n0_;have BK260:=n1_;have HB:=n2_;clear n0_ n1_ n2_;(try clear hb);(try clear hb2);(try clear hk);(try clear hi);(try clear ho0))|((with_reducible refine gate_callee (f:=55) rfl ?_);refine goesL_ (some 31) rfl rfl Try.func55 (by kernel_rfl) rfl #[.string t264] rfl (by (try simp only [List.map_toArray,List.map_cons,List.map_nil]);first|done|rfl|(simp only [List.length_drop,List.length_take];rfl)) ?_;(with_reducible refine (impl_signs.calls k t264 t270 t271 _ A5.out).mono ?_);rintro e w36 ⟨v272,rfl,ho0,hb⟩;refine ⟨_,rfl,?_⟩;have n0_:=Aside0.mk (Kd.R_elder' (by (with_reducible repeat (first|apply yH|apply yI|apply yJ));exact HO269.out) (Kd.R_base ho0) hb);have n1_:=Aside0.mk (Kd.R_lower (Kd.R_new' ho0 (Kd.R_lt (by (with_reducible repeat (first|apply yH|apply yI|apply yJ));exact HO269.out))) (yQ (by repeat (first|(with_reducible first|exact HB.out|apply yA|apply yB|apply yC|refine yD ?_ GE260.out)|exact HB.out))));have n2_:=Aside0.mk (blk_below (g:=gb260) (o:=.cells #[.slice none 0 0,.slice none 0 0] 41 (0,0)) (by (with_reducible repeat (first|refine yE ?_ _|refine yF ?_|refine yG ?_ _));exact BK260.out) hb);have n3_:=Aside0.mk (yP (by repeat (first|(with_reducible first|exact HB.out|apply yA|apply yB|apply yC|refine yD ?_ GE260.out)|exact HB.out)) hb);clear HO269;clear BK260;clear HB;have HO269:=n0_;have HO273:=n1_;have BK260:=n2_;have HB:=n3_;clear n0_ n1_ n2_ n3_;(try clear hb);(try clear hb2);(try clear hk);(try clear hi);(try clear ho0);obtain ⟨Ao37,co37,eo37⟩:=Kd.R_slice HO273.out;subst eo37;obtain ⟨Ao38,co38,eo38⟩:=Kd.R_slice HO269.out;subst eo38;have hcz39_0:w36.cell? ⟨gb260,0,none⟩=some (.slice none 0 0):=(blk_cell BK260.out 0).trans rfl;have hcz39_1:w36.cell? ⟨gb260,1,none⟩=some (.slice none 0 0):=(blk_cell BK260.out 1).trans rfl;have hfz39_0:=blk_frozen BK260.out 0;have hfz39_1:=blk_frozen BK260.out 1))
  refine bodyPost_ret (results_ct rfl _ _ gb260 41 #[.slice Ao38 t266.length co38,.slice Ao37 t270.length co37] (0,0) _ rfl (by (with_reducible repeat (first|refine yE ?_ _|refine yF ?_|refine yG ?_ _));refine blk_put (cs:=#[.slice Ao38 t266.length co38,.slice none 0 0]) ?_ 1 _ rfl;(with_reducible repeat (first|refine yE ?_ _|refine yF ?_|refine yG ?_ _));refine blk_put (cs:=#[.slice none 0 0,.slice none 0 0]) ?_ 0 _ rfl;(with_reducible repeat (first|refine yE ?_ _|refine yF ?_|refine yG ?_ _));exact BK260.out) Try.underlying41 rfl (by kernel_rfl)) rfl ?_
  exact ⟨_,_,by first|rfl|(simp [errW_none,errW_some]<;>rfl)|(simp [*,errW_none,errW_some]<;>rfl)|(simp [errW_none,errW_some];exact ⟨rfl,rfl⟩),by (with_reducible repeat (first|apply yH|apply yI|apply yJ));exact Kd.R_mono (Kd.R_far (p:=⟨gb260,1,none⟩) (Kd.R_far (p:=⟨gb260,0,none⟩) (Kd.R_types HO269.out BK260.out (by decide)) (fun _ hk=>hk.2) (.slice Ao38 t266.length co38)) (fun _ hk=>hk.2) (.slice Ao37 t270.length co37)) (fun _ hk=>hk.1.2),by (with_reducible repeat (first|apply yH|apply yI|apply yJ));exact Kd.R_mono (Kd.R_far (p:=⟨gb260,1,none⟩) (Kd.R_far (p:=⟨gb260,0,none⟩) (Kd.R_types HO273.out BK260.out (by decide)) (fun _ hk=>hk.2) (.slice Ao38 t266.length co38)) (fun _ hk=>hk.2) (.slice Ao37 t270.length co37)) (fun _ hk=>hk.1.2),by repeat (first|(with_reducible first|exact HB.out|apply yA|apply yB|apply yC|refine yD ?_ GE260.out)|exact HB.out)⟩

end Go.Proofs.Ytgheopbdmijlkaa.P

namespace Go.Proofs.Ytgheopbdmijlkaa.P
open Go.RowKit Go.Proofs.YtgheopbdmijlkaaW.PrintWords Go.Proofs.YtgheopbdmijlkaaW.PrintLast Go.Proofs.YtgheopbdmijlkaaW.PrintMore
attribute [local go_sem] max2_int min2_int max_two min_two max_three min_three max_four min_four   -- for this text's walks alone
set_option linter.unusedVariables false
set_option linter.unusedSimpArgs false

/-! ### impl_tidied: function 77 -/
def impl_tidied.f (k:Nat) (a0:ByteArray):Option (List Bool × List Bool × Bool):=(impl_setOf.f k a0).bind fun bt468=>(if bt468.2.2=true then ((impl_set_tidy.f k bt468.1 bt468.2.1).bind fun bt476=>(some (bt476.1,bt476.2,true))) else (some (([]:List Bool),([]:List Bool),false)))
theorem impl_tidied.mono:∀ a0 k,LeO (impl_tidied.f k a0) (impl_tidied.f (k+1) a0):=by
 intro a0 k
 unfold impl_tidied.f
 repeat' first
   | (with_reducible exact impl_setOf.mono _ _)
   | (with_reducible exact impl_set_tidy.mono _ _ _)
   | (with_reducible exact LeO.refl _)
   | (with_reducible exact LeO.none _)
   | (with_reducible refine LeO.ite ?_ ?_)
   | (with_reducible refine LeO.bind ?_ (fun _=>?_))
   | exact impl_setOf.mono _ _
   | exact impl_set_tidy.mono _ _ _
   | exact LeO.none _
   | refine LeO.ite ?_ ?_
   | refine LeO.bind ?_ (fun _=>?_)
set_option maxHeartbeats 8000000 in
set_option maxRecDepth 100000 in
theorem impl_tidied.calls (k:Nat) (a0:ByteArray) (r1:List Bool) (r2:List Bool) (r3:Bool) (w:World) (h:impl_tidied.f k a0=some (r1,r2,r3)) :
  Calls Try.prog 77 #[.string a0] w fun e w'=>∃ v0_ v1_:Value,e=.returned (.tuple #[.agg #[v0_,v1_],.bool r3])∧Kd.R Kd.bool 4 w' w.heap.size (fun k_=>some k_≠(v1_:Value).ownBlock) v0_ r1∧Kd.R Kd.bool 4 w' w.heap.size (fun k_=>some k_≠(v0_:Value).ownBlock) v1_ r2∧Below w.heap.size w w':=by
 have hu41:=Try.underlying41
 have HB:=Aside0.mk (Below.refl w.heap.size w)
 have H:((impl_setOf.f k a0).bind fun bt468=>(if bt468.2.2=true then ((impl_set_tidy.f k bt468.1 bt468.2.1).bind fun bt476=>(some (bt476.1,bt476.2,true))) else (some (([]:List Bool),([]:List Bool),false))))=some (r1,r2,r3):=h
 clear h
 replace H:=Option.bind_eq_some_iff.mp H
 obtain ⟨⟨t468,t471,t474⟩,A20,H⟩:=H
 replace H:(if t474=true then ((impl_set_tidy.f k t468 t471).bind fun bt476=>(some (bt476.1,bt476.2,true))) else (some (([]:List Bool),([]:List Bool),false)))=some (r1,r2,r3):=H
 have A2:=Aside0.mk A20
 clear A20
 by_cases c3:t474=true
 ·subst c3
  have H1:((impl_set_tidy.f k t468 t471).bind fun bt476=>(some (bt476.1,bt476.2,true)))=some (r1,r2,r3):=by rw [if_pos rfl] at H;exact H
  clear H
  have H:=H1
  clear H1
  replace H:=Option.bind_eq_some_iff.mp H
  obtain ⟨⟨t476,t479⟩,A40,H⟩:=H
  replace H:(some (t476,t479,true))=some (r1,r2,r3):=H
  have A4:=Aside0.mk A40
  clear A40
  simp only [Option.some.injEq,Prod.mk.injEq] at H
  obtain ⟨rfl,rfl,rfl⟩:=H
  go_enter Try.func77,Try.ntmps77
  go_wp2_with (first|((with_reducible refine gate_dst (N:=2) rfl ?_);refine box_event ?hg (N:=2) ?hd (cs:=#[.slice none 0 0,.slice none 0 0]) (t:=41) ?hr ?_;(case hd=>rfl);(case hg=>rfl);(case hr=>first|(go_simp;done)|(go_simp;rfl));intro gb467 hg w5 hbox hb;have n0_:=Aside0.mk (yP (by repeat (first|(with_reducible first|exact HB.out|apply yA|apply yB|apply yC)|exact HB.out)) hb);have n1_:=Aside0.mk (hbox);have n2_:=Aside0.mk ((by rw [hg];exact (yQ (by repeat (first|(with_reducible first|exact HB.out|apply yA|apply yB|apply yC)|exact HB.out))):w.heap.size≤gb467));have n3_:=Aside0.mk ((by rw [hg];exact (yQ (by repeat (first|(with_reducible first|exact HB.out|apply yA|apply yB|apply yC)|exact HB.out))):w.heap.size≤gb467));clear HB;have HB:=n0_;have BK467:=n1_;have GW467:=n2_;have GE467:=n3_;clear n0_ n1_ n2_ n3_;clear hb hbox hg)|((with_reducible refine gate_callee (f:=30) rfl ?_);refine goesL_ (some 8) rfl rfl Try.func30 (by kernel_rfl) rfl #[.string a0] rfl (by (try simp only [List.map_toArray,List.map_cons,List.map_nil]);first|done|rfl|(simp only [List.length_drop,List.length_take];rfl)) ?_;(with_reducible refine (impl_setOf.calls k a0 t468 t471 true _ A2.out).mono ?_);rintro e w6 ⟨v469,v472,rfl,ho0,ho1,hb⟩;refine ⟨_,rfl,?_⟩;have n0_:=Aside0.mk (Kd.R_lower ho0 (yQ (by repeat (first|(with_reducible first|exact HB.out|apply yA|apply yB|apply yC|refine yD ?_ GE467.out)|exact HB.out))));have n1_:=Aside0.mk (Kd.R_lower ho1 (yQ (by repeat (first|(with_reducible first|exact HB.out|apply yA|apply yB|apply yC|refine yD ?_ GE467.out)|exact HB.out))));have n2_:=Aside0.mk (blk_below (g:=gb467) (o:=.cells #[.slice none 0 0,.slice none 0 0] 41 (0,0)) (by (with_reducible repeat (first|refine yE ?_ _|refine yF ?_|refine yG ?_ _));exact BK467.out) hb);have n3_:=Aside0.mk (yP (by repeat (first|(with_reducible first|exact HB.out|apply yA|apply yB|apply yC|refine yD ?_ GE467.out)|exact HB.out)) hb);clear BK467;clear HB;have HO470:=n0_;have HO473:=n1_;have BK467:=n2_;have HB:=n3_;clear n0_ n1_ n2_ n3_;(try clear hb);(try clear hb2);(try clear hk);(try clear hi);(try clear ho0);(try clear ho1))|((with_reducible refine gate_dst (N:=4) rfl ?_);refine box_event ?hg (N:=4) ?hd (cs:=#[.slice none 0 0,.slice none 0 0]) (t:=41) ?hr ?_;(case hd=>rfl);(case hg=>rfl);(case hr=>first|(go_simp;done)|(go_simp;rfl));intro gb475 hg w7 hbox hb;have n0_:=Aside0.mk (Kd.R_below (by (with_reducible repeat (first|apply yH|apply yI|apply yJ));exact HO470.out) hb);have n1_:=Aside0.mk (Kd.R_below (by (with_reducible repeat (first|apply yH|apply yI|apply yJ));exact HO473.out) hb);have n2_:=Aside0.mk (blk_below (g:=gb467) (o:=.cells #[.slice none 0 0,.slice none 0 0] 41 (0,0)) (by (with_reducible repeat (first|refine yE ?_ _|refine yF ?_|refine yG ?_ _));exact BK467.out) hb);have n3_:=Aside0.mk (yP (by repeat (first|(with_reducible first|exact HB.out|apply yA|apply yB|apply yC|refine yD ?_ GE467.out)|exact HB.out)) hb);have n4_:=Aside0.mk (hbox);have n5_:=Aside0.mk ((by rw [hg];exact (yQ (by repeat (first|(with_reducible first|exact HB.out|apply yA|apply yB|apply yC|refine yD ?_ GE467.out)|exact HB.out))):w.heap.size≤gb475));have n6_:=Aside0.mk ((by rw [hg];exact (yQ (by repeat (first|(with_reducible first|exact HB.out|apply yA|apply yB|apply yC|refine yD ?_ GE467.out)|exact HB.out))):w.heap.size≤gb475));have n7_:=Aside0.mk ((by rw [hg];exact Nat.ne_of_lt (blk_lt (g:=gb467) (o:=.cells #[.slice none 0 0,.slice none 0 0] 41 (0,0)) (by (with_reducible repeat (first|refine yE ?_ _|refine yF ?_|refine yG ?_ _));exact BK467.out)):gb467≠gb475));have n8_:=Aside0.mk ((by rw [hg];exact Nat.ne_of_gt (blk_lt (g:=gb467) (o:=.cells #[.slice none 0 0,.slice none 0 0] 41 (0,0)) (by (with_reducible repeat (first|refine yE ?_ _|refine yF ?_|refine yG ?_ _));exact BK467.out)):gb475≠gb467));clear HO470;clear HO473;clear BK467;clear HB;have HO470:=n0_;have HO473:=n1_;have BK467:=n2_;have HB:=n3_;have BK475:=n4_;have GW475:=n5_;have GE475:=n6_;have NB467_475:=n7_;have NB475_467:=n8_;clear n0_ n1_ n2_ n3_ n4_ n5_ n6_ n7_ n8_;clear hb hbox hg;obtain ⟨Ao8,co8,eo8⟩:=Kd.R_slice HO470.out;subst eo8;have hnb9:=NB475_467.out;have hnc9:=NB467_475.out;have hcz10_0:w7.cell? ⟨gb475,0,none⟩=some (.slice none 0 0):=(blk_cell BK475.out 0).trans rfl;have hcz10_1:w7.cell? ⟨gb475,1,none⟩=some (.slice none 0 0):=(blk_cell BK475.out 1).trans rfl;have hfz10_0:=blk_frozen BK475.out 0;have hfz10_1:=blk_frozen BK475.out 1;obtain ⟨Ao11,co11,eo11⟩:=Kd.R_slice HO473.out;subst eo11)|((with_reducible refine gate_callee (f:=69) rfl ?_);refine goesL_ (some 15) rfl rfl Try.func69 (by kernel_rfl) rfl #[.agg #[.slice Ao8 t468.length co8,.slice Ao11 t471.length co11]] rfl (by (try simp only [List.map_toArray,List.map_cons,List.map_nil]);first|done|rfl|(simp only [List.length_drop,List.length_take];rfl)) ?_;(with_reducible refine (impl_set_tidy.calls k _ _ t468 _ _ t471 t476 t479 _ ?side1 ?side2 ?side3 ?side4 A4.out).mono ?_);(case side1=>refine (Kd.R_reads' (e:=4) (base:=w.heap.size) (ok:=fun k_=>some k_≠(.slice Ao11 t471.length co11:Value).ownBlock) (n:=t468.length) (c:=co8) ?_).2.2;exact (by (with_reducible repeat (first|apply yH|apply yI|apply yJ));exact (Kd.R_mono (Kd.R_far (p:=⟨gb475,1,none⟩) (Kd.R_far (p:=⟨gb475,0,none⟩) (Kd.R_types HO470.out BK475.out (by decide)) (fun _ hk=>hk.2) (.slice Ao8 t468.length co8)) (fun _ hk=>hk.2) (.slice Ao11 t471.length co11)) (fun _ h_=>h_.1))));(case side2=>exact (Kd.R_reads' HO470.out).2.1);(case side3=>refine (Kd.R_reads' (e:=4) (base:=w.heap.size) (ok:=fun k_=>some k_≠(.slice Ao8 t468.length co8:Value).ownBlock) (n:=t471.length) (c:=co11) ?_).2.2;exact (by (with_reducible repeat (first|apply yH|apply yI|apply yJ));exact (Kd.R_mono (Kd.R_far (p:=⟨gb475,1,none⟩) (Kd.R_far (p:=⟨gb475,0,none⟩) (Kd.R_types HO473.out BK475.out (by decide)) (fun _ hk=>hk.2) (.slice Ao8 t468.length co8)) (fun _ hk=>hk.2) (.slice Ao11 t471.length co11)) (fun _ h_=>h_.1))));(case side4=>exact (Kd.R_reads' HO473.out).2.1);rintro e w12 ⟨v477,v480,rfl,ho0,ho1,hb⟩;refine ⟨_,rfl,?_⟩;have n0_:=Aside0.mk (Kd.R_mono (Kd.R_told (Kd.R_told (Kd.R_old (by (with_reducible repeat (first|apply yH|apply yI|apply yJ));exact (Kd.R_mono (Kd.R_far (p:=⟨gb475,1,none⟩) (Kd.R_far (p:=⟨gb475,0,none⟩) (Kd.R_types HO470.out BK475.out (by decide)) (fun _ hk=>hk.2) (.slice Ao8 t468.length co8)) (fun _ hk=>hk.2) (.slice Ao11 t471.length co11)) (fun _ h_=>h_.1))) hb) (Kd.R_base ho0)) (Kd.R_base ho1)) (fun _ h_=>h_.1));have n1_:=Aside0.mk (Kd.R_mono (Kd.R_told (Kd.R_told (Kd.R_old (by (with_reducible repeat (first|apply yH|apply yI|apply yJ));exact (Kd.R_mono (Kd.R_far (p:=⟨gb475,1,none⟩) (Kd.R_far (p:=⟨gb475,0,none⟩) (Kd.R_types HO473.out BK475.out (by decide)) (fun _ hk=>hk.2) (.slice Ao8 t468.length co8)) (fun _ hk=>hk.2) (.slice Ao11 t471.length co11)) (fun _ h_=>h_.1))) hb) (Kd.R_base ho0)) (Kd.R_base ho1)) (fun _ h_=>h_.1));have n2_:=Aside0.mk (Kd.R_lower (Kd.R_new' (Kd.R_new' ho0 (Kd.R_lt (by (with_reducible repeat (first|apply yH|apply yI|apply yJ));exact (Kd.R_mono (Kd.R_far (p:=⟨gb475,1,none⟩) (Kd.R_far (p:=⟨gb475,0,none⟩) (Kd.R_types HO470.out BK475.out (by decide)) (fun _ hk=>hk.2) (.slice Ao8 t468.length co8)) (fun _ hk=>hk.2) (.slice Ao11 t471.length co11)) (fun _ h_=>h_.1))))) (Kd.R_lt (by (with_reducible repeat (first|apply yH|apply yI|apply yJ));exact (Kd.R_mono (Kd.R_far (p:=⟨gb475,1,none⟩) (Kd.R_far (p:=⟨gb475,0,none⟩) (Kd.R_types HO473.out BK475.out (by decide)) (fun _ hk=>hk.2) (.slice Ao8 t468.length co8)) (fun _ hk=>hk.2) (.slice Ao11 t471.length co11)) (fun _ h_=>h_.1))))) (yQ (by repeat (first|(with_reducible first|exact HB.out|apply yA|apply yB|apply yC|refine yD ?_ GE467.out|refine yD ?_ GE475.out)|exact HB.out))));have n3_:=Aside0.mk (Kd.R_lower (Kd.R_new' (Kd.R_new' ho1 (Kd.R_lt (by (with_reducible repeat (first|apply yH|apply yI|apply yJ));exact (Kd.R_mono (Kd.R_far (p:=⟨gb475,1,none⟩) (Kd.R_far (p:=⟨gb475,0,none⟩) (Kd.R_types HO470.out BK475.out (by decide)) (fun _ hk=>hk.2) (.slice Ao8 t468.length co8)) (fun _ hk=>hk.2) (.slice Ao11 t471.length co11)) (fun _ h_=>h_.1))))) (Kd.R_lt (by (with_reducible repeat (first|apply yH|apply yI|apply yJ));exact (Kd.R_mono (Kd.R_far (p:=⟨gb475,1,none⟩) (Kd.R_far (p:=⟨gb475,0,none⟩) (Kd.R_types HO473.out BK475.out (by decide)) (fun _ hk=>hk.2) (.slice Ao8 t468.length co8)) (fun _ hk=>hk.2) (.slice Ao11 t471.length co11)) (fun _ h_=>h_.1))))) (yQ (by repeat (first|(with_reducible first|exact HB.out|apply yA|apply yB|apply yC|refine yD ?_ GE467.out|refine yD ?_ GE475.out)|exact HB.out))));have n4_:=Aside0.mk (blk_below (g:=gb467) (o:=.cells #[.slice none 0 0,.slice none 0 0] 41 (0,0)) (by (with_reducible repeat (first|refine yE ?_ _|refine yF ?_|refine yG ?_ _));refine blk_far ?_ NB467_475.out _;(with_reducible repeat (first|refine yE ?_ _|refine yF ?_|refine yG ?_ _));refine blk_far ?_ NB467_475.out _;(with_reducible repeat (first|refine yE ?_ _|refine yF ?_|refine yG ?_ _));exact BK467.out) hb);have n5_:=Aside0.mk (blk_below (g:=gb475) (o:=.cells #[.slice Ao8 t468.length co8,.slice Ao11 t471.length co11] 41 (0,0)) (by (with_reducible repeat (first|refine yE ?_ _|refine yF ?_|refine yG ?_ _));refine blk_put (cs:=#[.slice Ao8 t468.length co8,.slice none 0 0]) ?_ 1 _ rfl;(with_reducible repeat (first|refine yE ?_ _|refine yF ?_|refine yG ?_ _));refine blk_put (cs:=#[.slice none 0 0,.slice none 0 0]) ?_ 0 _ rfl;(with_reducible repeat (first|refine yE ?_ _|refine yF ?_|refine yG ?_ _));exact BK475.out) hb);have n6_:=Aside0.mk (yP (by repeat (first|(with_reducible first|exact HB.out|apply yA|apply yB|apply yC|refine yD ?_ GE467.out|refine yD ?_ GE475.out)|exact HB.out)) hb);clear HO470;clear HO473;clear BK467;clear BK475;clear HB;have HO470:=n0_;have HO473:=n1_;have HO478:=n2_;have HO481:=n3_;have BK467:=n4_;have BK475:=n5_;have HB:=n6_;clear n0_ n1_ n2_ n3_ n4_ n5_ n6_;(try clear hb);(try clear hb2);(try clear hk);(try clear hi);(try clear ho0);(try clear ho1);obtain ⟨Ao13,co13,eo13⟩:=Kd.R_slice HO478.out;subst eo13;have hcz14_0:w12.cell? ⟨gb467,0,none⟩=some (.slice none 0 0):=(blk_cell BK467.out 0).trans rfl;have hcz14_1:w12.cell? ⟨gb467,1,none⟩=some (.slice none 0 0):=(blk_cell BK467.out 1).trans rfl;have hfz14_0:=blk_frozen BK467.out 0;have hfz14_1:=blk_frozen BK467.out 1;obtain ⟨Ao15,co15,eo15⟩:=Kd.R_slice HO481.out;subst eo15))
  refine bodyPost_ret (results_ct rfl _ _ gb467 41 #[.slice Ao13 t476.length co13,.slice Ao15 t479.length co15] (0,0) _ rfl (by (with_reducible repeat (first|refine yE ?_ _|refine yF ?_|refine yG ?_ _));refine blk_put (cs:=#[.slice Ao13 t476.length co13,.slice none 0 0]) ?_ 1 _ rfl;(with_reducible repeat (first|refine yE ?_ _|refine yF ?_|refine yG ?_ _));refine blk_put (cs:=#[.slice none 0 0,.slice none 0 0]) ?_ 0 _ rfl;(with_reducible repeat (first|refine yE ?_ _|refine yF ?_|refine yG ?_ _));exact BK467.out) Try.underlying41 rfl (by kernel_rfl)) rfl ?_
  exact ⟨_,_,by first|rfl|(simp [errW_none,errW_some]<;>rfl)|(simp [*,errW_none,errW_some]<;>rfl)|(simp [errW_none,errW_some];exact ⟨rfl,rfl⟩),by (with_reducible repeat (first|apply yH|apply yI|apply yJ));exact Kd.R_mono (Kd.R_far (p:=⟨gb467,1,none⟩) (Kd.R_far (p:=⟨gb467,0,none⟩) (Kd.R_types HO478.out BK467.out (by decide)) (fun _ hk=>hk.2) (.slice Ao13 t476.length co13)) (fun _ hk=>hk.2) (.slice Ao15 t479.length co15)) (fun _ hk=>hk.1.1.1),by (with_reducible repeat (first|apply yH|apply yI|apply yJ));exact Kd.R_mono (Kd.R_far (p:=⟨gb467,1,none⟩) (Kd.R_far (p:=⟨gb467,0,none⟩) (Kd.R_types HO481.out BK467.out (by decide)) (fun _ hk=>hk.2) (.slice Ao13 t476.length co13)) (fun _ hk=>hk.2) (.slice Ao15 t479.length co15)) (fun _ hk=>hk.1.1.1),by repeat (first|(with_reducible first|exact HB.out|apply yA|apply yB|apply yC|refine yD ?_ GE467.out|refine yD ?_ GE475.out)|exact HB.out)⟩
 ·replace c3:=Bool.eq_false_iff.mpr c3
  subst c3
  have H1:(some (([]:List Bool),([]:List Bool),false))=some (r1,r2,r3):=by rw [if_neg (show ¬ (false=true) by decide)] at H;exact H
  clear H
  have H:=H1
  clear H1
  simp only [Option.some.injEq,Prod.mk.injEq] at H
  obtain ⟨rfl,rfl,rfl⟩:=H
  go_enter Try.func77,Try.ntmps77
  go_wp2_with (first|((with_reducible refine gate_dst (N:=2) rfl ?_);refine box_event ?hg (N:=2) ?hd (cs:=#[.slice none 0 0,.slice none 0 0]) (t:=41) ?hr ?_;(case hd=>rfl);(case hg=>rfl);(case hr=>first|(go_simp;done)|(go_simp;rfl));intro gb467 hg w16 hbox hb;have n0_:=Aside0.mk (yP (by repeat (first|(with_reducible first|exact HB.out|apply yA|apply yB|apply yC)|exact HB.out)) hb);have n1_:=Aside0.mk (hbox);have n2_:=Aside0.mk ((by rw [hg];exact (yQ (by repeat (first|(with_reducible first|exact HB.out|apply yA|apply yB|apply yC)|exact HB.out))):w.heap.size≤gb467));have n3_:=Aside0.mk ((by rw [hg];exact (yQ (by repeat (first|(with_reducible first|exact HB.out|apply yA|apply yB|apply yC)|exact HB.out))):w.heap.size≤gb467));clear HB;have HB:=n0_;have BK467:=n1_;have GW467:=n2_;have GE467:=n3_;clear n0_ n1_ n2_ n3_;clear hb hbox hg)|((with_reducible refine gate_callee (f:=30) rfl ?_);refine goesL_ (some 8) rfl rfl Try.func30 (by kernel_rfl) rfl #[.string a0] rfl (by (try simp only [List.map_toArray,List.map_cons,List.map_nil]);first|done|rfl|(simp only [List.length_drop,List.length_take];rfl)) ?_;(with_reducible refine (impl_setOf.calls k a0 t468 t471 false _ A2.out).mono ?_);rintro e w17 ⟨v469,v472,rfl,ho0,ho1,hb⟩;refine ⟨_,rfl,?_⟩;have n0_:=Aside0.mk (Kd.R_lower ho0 (yQ (by repeat (first|(with_reducible first|exact HB.out|apply yA|apply yB|apply yC|refine yD ?_ GE467.out)|exact HB.out))));have n1_:=Aside0.mk (Kd.R_lower ho1 (yQ (by repeat (first|(with_reducible first|exact HB.out|apply yA|apply yB|apply yC|refine yD ?_ GE467.out)|exact HB.out))));have n2_:=Aside0.mk (blk_below (g:=gb467) (o:=.cells #[.slice none 0 0,.slice none 0 0] 41 (0,0)) (by (with_reducible repeat (first|refine yE ?_ _|refine yF ?_|refine yG ?_ _));exact BK467.out) hb);have n3_:=Aside0.mk (yP (by repeat (first|(with_reducible first|exact HB.out|apply yA|apply yB|apply yC|refine yD ?_ GE467.out)|exact HB.out)) hb);clear BK467;clear HB;have HO470:=n0_;have HO473:=n1_;have BK467:=n2_;have HB:=n3_;clear n0_ n1_ n2_ n3_;(try clear hb);(try clear hb2);(try clear hk);(try clear hi);(try clear ho0);(try clear ho1))|((with_reducible refine gate_dst (N:=4) rfl ?_);refine box_event ?hg (N:=4) ?hd (cs:=#[.slice none 0 0,.slice none 0 0]) (t:=41) ?hr ?_;(case hd=>rfl);(case hg=>rfl);(case hr=>first|(go_simp;done)|(go_simp;rfl));intro gb475 hg w18 hbox hb;have n0_:=Aside0.mk (Kd.R_below (by (with_reducible repeat (first|apply yH|apply yI|apply yJ));exact HO470.out) hb);have n1_:=Aside0.mk (Kd.R_below (by (with_reducible repeat (first|apply yH|apply yI|apply yJ));exact HO473.out) hb);have n2_:=Aside0.mk (blk_below (g:=gb467) (o:=.cells #[.slice none 0 0,.slice none 0 0] 41 (0,0)) (by (with_reducible repeat (first|refine yE ?_ _|refine yF ?_|refine yG ?_ _));exact BK467.out) hb);have n3_:=Aside0.mk (yP (by repeat (first|(with_reducible first|exact HB.out|apply yA|apply yB|apply yC|refine yD ?_ GE467.out)|exact HB.out)) hb);have n4_:=Aside0.mk (hbox);have n5_:=Aside0.mk ((by rw [hg];exact (yQ (by repeat (first|(with_reducible first|exact HB.out|apply yA|apply yB|apply yC|refine yD ?_ GE467.out)|exact HB.out))):w.heap.size≤gb475));have n6_:=Aside0.mk ((by rw [hg];exact (yQ (by repeat (first|(with_reducible first|exact HB.out|apply yA|apply yB|apply yC|refine yD ?_ GE467.out)|exact HB.out))):w.heap.size≤gb475));have n7_:=Aside0.mk ((by rw [hg];exact Nat.ne_of_lt (blk_lt (g:=gb467) (o:=.cells #[.slice none 0 0,.slice none 0 0] 41 (0,0)) (by (with_reducible repeat (first|refine yE ?_ _|refine yF ?_|refine yG ?_ _));exact BK467.out)):gb467≠gb475));have n8_:=Aside0.mk ((by rw [hg];exact Nat.ne_of_gt (blk_lt (g:=gb467) (o:=.cells #[.slice none 0 0,.slice none 0 0] 41 (0,0)) (by (with_reducible repeat (first|refine yE ?_ _|refine yF ?_|refine yG ?_ _));exact BK467.out)):gb475≠gb467));clear HO470;clear HO473;clear BK467;clear HB;have HO470:=n0_;have HO473:=n1_;have BK467:=n2_;have HB:=n3_;have BK475:=n4_;have GW475:=n5_;have GE475:=n6_;have NB467_475:=n7_;have NB475_467:=n8_;clear n0_ n1_ n2_ n3_ n4_ n5_ n6_ n7_ n8_;clear hb hbox hg;obtain ⟨Ao19,co19,eo19⟩:=Kd.R_slice HO470.out;subst eo19;have hnb20:=NB475_467.out;have hnc20:=NB467_475.out;have hcz21_0:w18.cell? ⟨gb475,0,none⟩=some (.slice none 0 0):=(blk_cell BK475.out 0).trans rfl;have hcz21_1:w18.cell? ⟨gb475,1,none⟩=some (.slice none 0 0):=(blk_cell BK475.out 1).trans rfl;have hfz21_0:=blk_frozen BK475.out 0;have hfz21_1:=blk_frozen BK475.out 1;obtain ⟨Ao22,co22,eo22⟩:=Kd.R_slice HO473.out;subst eo22;have hcz23_0:w18.cell? ⟨gb467,0,none⟩=some (.slice none 0 0):=(blk_cell BK467.out 0).trans rfl;have hcz23_1:w18.cell? ⟨gb467,1,none⟩=some (.slice none 0 0):=(blk_cell BK467.out 1).trans rfl;have hfz23_0:=blk_frozen BK467.out 0;have hfz23_1:=blk_frozen BK467.out 1))
  refine bodyPost_ret (results_ct rfl _ _ gb467 41 #[.slice none 0 0,.slice none 0 0] (0,0) _ rfl (by (with_reducible repeat (first|refine yE ?_ _|refine yF ?_|refine yG ?_ _));refine blk_put (cs:=#[.slice none 0 0,.slice none 0 0]) ?_ 1 _ rfl;(with_reducible repeat (first|refine yE ?_ _|refine yF ?_|refine yG ?_ _));refine blk_put (cs:=#[.slice none 0 0,.slice none 0 0]) ?_ 0 _ rfl;(with_reducible repeat (first|refine yE ?_ _|refine yF ?_|refine yG ?_ _));refine blk_far ?_ NB467_475.out _;(with_reducible repeat (first|refine yE ?_ _|refine yF ?_|refine yG ?_ _));refine blk_far ?_ NB467_475.out _;(with_reducible repeat (first|refine yE ?_ _|refine yF ?_|refine yG ?_ _));exact BK467.out) Try.underlying41 rfl (by kernel_rfl)) rfl ?_
  exact ⟨_,_,by first|rfl|(simp [errW_none,errW_some]<;>rfl)|(simp [*,errW_none,errW_some]<;>rfl)|(simp [errW_none,errW_some];exact ⟨rfl,rfl⟩),by first|exact Kd.R_nil _ _ _ _ _|exact Kd.N_nil _ _ _ _ _|exact Kd.V_nil _ _ _ _ _|exact Kd.Q_nil _ _ _ _ _|exact Kd.S_nil _ _ _ _ _,by first|exact Kd.R_nil _ _ _ _ _|exact Kd.N_nil _ _ _ _ _|exact Kd.V_nil _ _ _ _ _|exact Kd.Q_nil _ _ _ _ _|exact Kd.S_nil _ _ _ _ _,by repeat (first|(with_reducible first|exact HB.out|apply yA|apply yB|apply yC|refine yD ?_ GE467.out|refine yD ?_ GE475.out)|exact HB.out)⟩

end Go.Proofs.Ytgheopbdmijlkaa.P

namespace Go.Proofs.Ytgheopbdmijlkaa.P
open Go.RowKit Go.Proofs.YtgheopbdmijlkaaW.PrintWords Go.Proofs.YtgheopbdmijlkaaW.PrintLast Go.Proofs.YtgheopbdmijlkaaW.PrintMore
attribute [local go_sem] max2_int min2_int max_two min_two max_three min_three max_four min_four   -- for this text's walks alone
set_option linter.unusedVariables false
set_option linter.unusedSimpArgs false

/-! ### impl_SetSizes: function 64 -/
def impl_SetSizes.f (k:Nat) (a0:ByteArray):Option (Int × Int × Bool):=(impl_tidied.f k a0).bind fun bt482=>(some ((bt482.1.length:Int),(bt482.2.1.length:Int),bt482.2.2))
theorem impl_SetSizes.mono:∀ a0 k,LeO (impl_SetSizes.f k a0) (impl_SetSizes.f (k+1) a0):=by
 intro a0 k
 unfold impl_SetSizes.f
 repeat' first
   | (with_reducible exact impl_tidied.mono _ _)
   | (with_reducible exact LeO.refl _)
   | (with_reducible exact LeO.none _)
   | (with_reducible refine LeO.ite ?_ ?_)
   | (with_reducible refine LeO.bind ?_ (fun _=>?_))
   | exact impl_tidied.mono _ _
   | exact LeO.none _
   | refine LeO.ite ?_ ?_
   | refine LeO.bind ?_ (fun _=>?_)
set_option maxHeartbeats 8000000 in
set_option maxRecDepth 100000 in
theorem impl_SetSizes.calls (k:Nat) (a0:ByteArray) (r1:Int) (r2:Int) (r3:Bool) (w:World) (h:impl_SetSizes.f k a0=some (r1,r2,r3)) :
  Calls Try.prog 64 #[.string a0] w fun e w'=>e=.returned (.tuple #[.int .i64 r1,.int .i64 r2,.bool r3])∧Below w.heap.size w w':=by
 have hu41:=Try.underlying41
 have HB:=Aside0.mk (Below.refl w.heap.size w)
 have H:((impl_tidied.f k a0).bind fun bt482=>(some ((bt482.1.length:Int),(bt482.2.1.length:Int),bt482.2.2)))=some (r1,r2,r3):=h
 clear h
 replace H:=Option.bind_eq_some_iff.mp H
 obtain ⟨⟨t482,t485,t488⟩,A20,H⟩:=H
 replace H:(some ((t482.length:Int),(t485.length:Int),t488))=some (r1,r2,r3):=H
 have A2:=Aside0.mk A20
 clear A20
 simp only [Option.some.injEq,Prod.mk.injEq] at H
 obtain ⟨rfl,rfl,rfl⟩:=H
 go_enter Try.func64,Try.ntmps64
 go_wp2_with (first|(go_at_call 77;(with_reducible refine (impl_tidied.calls k a0 t482 t485 t488 _ A2.out).mono ?_);rintro e w3 ⟨v483,v486,rfl,ho0,ho1,hb⟩;have n0_:=Aside0.mk (Kd.R_lower ho0 (yQ (by repeat (first|(with_reducible first|exact HB.out|apply yA|apply yB|apply yC)|exact HB.out))));have n1_:=Aside0.mk (Kd.R_lower ho1 (yQ (by repeat (first|(with_reducible first|exact HB.out|apply yA|apply yB|apply yC)|exact HB.out))));have n2_:=Aside0.mk (yP (by repeat (first|(with_reducible first|exact HB.out|apply yA|apply yB|apply yC)|exact HB.out)) hb);clear HB;have HO484:=n0_;have HO487:=n1_;have HB:=n2_;clear n0_ n1_ n2_;(try clear hb);(try clear hb2);(try clear hk);(try clear hi);(try clear ho0);(try clear ho1))|((with_reducible refine gate_dst (N:=5) rfl ?_);refine box_event ?hg (N:=5) ?hd (cs:=#[.slice none 0 0,.slice none 0 0]) (t:=41) ?hr ?_;(case hd=>rfl);(case hg=>rfl);(case hr=>first|(go_simp;done)|(go_simp;rfl));intro gb489 hg w4 hbox hb;have n0_:=Aside0.mk (Kd.R_below (by (with_reducible repeat (first|apply yH|apply yI|apply yJ));exact HO484.out) hb);have n1_:=Aside0.mk (Kd.R_below (by (with_reducible repeat (first|apply yH|apply yI|apply yJ));exact HO487.out) hb);have n2_:=Aside0.mk (yP (by repeat (first|(with_reducible first|exact HB.out|apply yA|apply yB|apply yC)|exact HB.out)) hb);have n3_:=Aside0.mk (hbox);have n4_:=Aside0.mk ((by rw [hg];exact (yQ (by repeat (first|(with_reducible first|exact HB.out|apply yA|apply yB|apply yC)|exact HB.out))):w.heap.size≤gb489));have n5_:=Aside0.mk ((by rw [hg];exact (yQ (by repeat (first|(with_reducible first|exact HB.out|apply yA|apply yB|apply yC)|exact HB.out))):w.heap.size≤gb489));clear HO484;clear HO487;clear HB;have HO484:=n0_;have HO487:=n1_;have HB:=n2_;have BK489:=n3_;have GW489:=n4_;have GE489:=n5_;clear n0_ n1_ n2_ n3_ n4_ n5_;clear hb hbox hg;obtain ⟨Ao5,co5,eo5⟩:=Kd.R_slice HO484.out;subst eo5;have hcz6_0:w4.cell? ⟨gb489,0,none⟩=some (.slice none 0 0):=(blk_cell BK489.out 0).trans rfl;have hcz6_1:w4.cell? ⟨gb489,1,none⟩=some (.slice none 0 0):=(blk_cell BK489.out 1).trans rfl;have hfz6_0:=blk_frozen BK489.out 0;have hfz6_1:=blk_frozen BK489.out 1;obtain ⟨Ao7,co7,eo7⟩:=Kd.R_slice HO487.out;subst eo7))
 repeat (go_quiet (first|(go_at_call 77;(with_reducible refine (impl_tidied.calls k a0 t482 t485 t488 _ A2.out).mono ?_);rintro e w3 ⟨v483,v486,rfl,ho0,ho1,hb⟩;have n0_:=Aside0.mk (Kd.R_lower ho0 (yQ (by repeat (first|(with_reducible first|exact HB.out|apply yA|apply yB|apply yC)|exact HB.out))));have n1_:=Aside0.mk (Kd.R_lower ho1 (yQ (by repeat (first|(with_reducible first|exact HB.out|apply yA|apply yB|apply yC)|exact HB.out))));have n2_:=Aside0.mk (yP (by repeat (first|(with_reducible first|exact HB.out|apply yA|apply yB|apply yC)|exact HB.out)) hb);clear HB;have HO484:=n0_;have HO487:=n1_;have HB:=n2_;clear n0_ n1_ n2_;(try clear hb);(try clear hb2);(try clear hk);(try clear hi);(try clear ho0);(try clear ho1))|((with_reducible refine gate_dst (N:=5) rfl ?_);refine box_event ?hg (N:=5) ?hd (cs:=#[.slice none 0 0,.slice none 0 0]) (t:=41) ?hr ?_;(case hd=>rfl);(case hg=>rfl);(case hr=>first|(go_simp;done)|(go_simp;rfl));intro gb489 hg w4 hbox hb;have n0_:=Aside0.mk (Kd.R_below (by (with_reducible repeat (first|apply yH|apply yI|apply yJ));exact HO484.out) hb);have n1_:=Aside0.mk (Kd.R_below (by (with_reducible repeat (first|apply yH|apply yI|apply yJ));exact HO487.out) hb);have n2_:=Aside0.mk (yP (by repeat (first|(with_reducible first|exact HB.out|apply yA|apply yB|apply yC)|exact HB.out)) hb);have n3_:=Aside0.mk (hbox);have n4_:=Aside0.mk ((by rw [hg];exact (yQ (by repeat (first|(with_reducible first|exact HB.out|apply yA|apply yB|apply yC)|exact HB.out))):w.heap.size≤gb489));have n5_:=Aside0.mk ((by rw [hg];exact (yQ (by repeat (first|(with_reducible first|exact HB.out|apply yA|apply yB|apply yC)|exact HB.out))):w.heap.size≤gb489));clear HO484;clear HO487;clear HB;have HO484:=n0_;have HO487:=n1_;have HB:=n2_;have BK489:=n3_;have GW489:=n4_;have GE489:=n5_;clear n0_ n1_ n2_ n3_ n4_ n5_;clear hb hbox hg;obtain ⟨Ao5,co5,eo5⟩:=Kd.R_slice HO484.out;subst eo5;have hcz6_0:w4.cell? ⟨gb489,0,none⟩=some (.slice none 0 0):=(blk_cell BK489.out 0).trans rfl;have hcz6_1:w4.cell? ⟨gb489,1,none⟩=some (.slice none 0 0):=(blk_cell BK489.out 1).trans rfl;have hfz6_0:=blk_frozen BK489.out 0;have hfz6_1:=blk_frozen BK489.out 1;obtain ⟨Ao7,co7,eo7⟩:=Kd.R_slice HO487.out;subst eo7));try go_wp2_with (first|(go_at_call 77;(with_reducible refine (impl_tidied.calls k a0 t482 t485 t488 _ A2.out).mono ?_);rintro e w3 ⟨v483,v486,rfl,ho0,ho1,hb⟩;have n0_:=Aside0.mk (Kd.R_lower ho0 (yQ (by repeat (first|(with_reducible first|exact HB.out|apply yA|apply yB|apply yC)|exact HB.out))));have n1_:=Aside0.mk (Kd.R_lower ho1 (yQ (by repeat (first|(with_reducible first|exact HB.out|apply yA|apply yB|apply yC)|exact HB.out))));have n2_:=Aside0.mk (yP (by repeat (first|(with_reducible first|exact HB.out|apply yA|apply yB|apply yC)|exact HB.out)) hb);clear HB;have HO484:=n0_;have HO487:=n1_;have HB:=n2_;clear n0_ n1_ n2_;(try clear hb);(try clear hb2);(try clear hk);(try clear hi);(try clear ho0);(try clear ho1))|((with_reducible refine gate_dst (N:=5) rfl ?_);refine box_event ?hg (N:=5) ?hd (cs:=#[.slice none 0 0,.slice none 0 0]) (t:=41) ?hr ?_;(case hd=>rfl);(case hg=>rfl);(case hr=>first|(go_simp;done)|(go_simp;rfl));intro gb489 hg w4 hbox hb;have n0_:=Aside0.mk (Kd.R_below (by (with_reducible repeat (first|apply yH|apply yI|apply yJ));exact HO484.out) hb);have n1_:=Aside0.mk (Kd.R_below (by (with_reducible repeat (first|apply yH|apply yI|apply yJ));exact HO487.out) hb);have n2_:=Aside0.mk (yP (by repeat (first|(with_reducible first|exact HB.out|apply yA|apply yB|apply yC)|exact HB.out)) hb);have n3_:=Aside0.mk (hbox);have n4_:=Aside0.mk ((by rw [hg];exact (yQ (by repeat (first|(with_reducible first|exact HB.out|apply yA|apply yB|apply yC)|exact HB.out))):w.heap.size≤gb489));have n5_:=Aside0.mk ((by rw [hg];exact (yQ (by repeat (first|(with_reducible first|exact HB.out|apply yA|apply yB|apply yC)|exact HB.out))):w.heap.size≤gb489));clear HO484;clear HO487;clear HB;have HO484:=n0_;have HO487:=n1_;have HB:=n2_;have BK489:=n3_;have GW489:=n4_;have GE489:=n5_;clear n0_ n1_ n2_ n3_ n4_ n5_;clear hb hbox hg;obtain ⟨Ao5,co5,eo5⟩:=Kd.R_slice HO484.out;subst eo5;have hcz6_0:w4.cell? ⟨gb489,0,none⟩=some (.slice none 0 0):=(blk_cell BK489.out 0).trans rfl;have hcz6_1:w4.cell? ⟨gb489,1,none⟩=some (.slice none 0 0):=(blk_cell BK489.out 1).trans rfl;have hfz6_0:=blk_frozen BK489.out 0;have hfz6_1:=blk_frozen BK489.out 1;obtain ⟨Ao7,co7,eo7⟩:=Kd.R_slice HO487.out;subst eo7)))
 go_ret3
 exact ⟨by first|rfl|(simp [errW_none,errW_some]<;>rfl)|(simp [*,errW_none,errW_some]<;>rfl)|(simp [errW_none,errW_some];exact ⟨rfl,rfl⟩),by repeat (first|(with_reducible first|exact HB.out|apply yA|apply yB|apply yC|refine yD ?_ GE489.out)|exact HB.out)⟩

end Go.Proofs.Ytgheopbdmijlkaa.P

namespace Go.Proofs.Ytgheopbdmijlkaa.P
open Go.RowKit Go.Proofs.YtgheopbdmijlkaaW.PrintWords Go.Proofs.YtgheopbdmijlkaaW.PrintLast Go.Proofs.YtgheopbdmijlkaaW.PrintMore
attribute [local go_sem] max2_int min2_int max_two min_two max_three min_three max_four min_four   -- for this text's walks alone
set_option linter.unusedVariables false
set_option linter.unusedSimpArgs false

/-! ### impl_RestMany: function 40 -/
def impl_RestMany.f (k:Nat) (a0:ByteArray):Option (Int × Bool):=(impl_SetSizes.f k a0).bind fun bt490=>(some (wrap64 (bt490.1+bt490.2.1),bt490.2.2))
theorem impl_RestMany.mono:∀ a0 k,LeO (impl_RestMany.f k a0) (impl_RestMany.f (k+1) a0):=by
 intro a0 k
 unfold impl_RestMany.f
 repeat' first
   | (with_reducible exact impl_SetSizes.mono _ _)
   | (with_reducible exact LeO.refl _)
   | (with_reducible exact LeO.none _)
   | (with_reducible refine LeO.ite ?_ ?_)
   | (with_reducible refine LeO.bind ?_ (fun _=>?_))
   | exact impl_SetSizes.mono _ _
   | exact LeO.none _
   | refine LeO.ite ?_ ?_
   | refine LeO.bind ?_ (fun _=>?_)
set_option maxHeartbeats 8000000 in
set_option maxRecDepth 100000 in
theorem impl_RestMany.calls (k:Nat) (a0:ByteArray) (r1:Int) (r2:Bool) (w:World) (h:impl_RestMany.f k a0=some (r1,r2)) :
  Calls Try.prog 40 #[.string a0] w fun e w'=>e=.returned (.tuple #[.int .i64 r1,.bool r2])∧Below w.heap.size w w':=by
 have HB:=Aside0.mk (Below.refl w.heap.size w)
 have H:((impl_SetSizes.f k a0).bind fun bt490=>(some (wrap64 (bt490.1+bt490.2.1),bt490.2.2)))=some (r1,r2):=h
 clear h
 replace H:=Option.bind_eq_some_iff.mp H
 obtain ⟨⟨t490,t491,t492⟩,A20,H⟩:=H
 replace H:(some (wrap64 (t490+t491),t492))=some (r1,r2):=H
 have A2:=Aside0.mk A20
 clear A20
 simp only [Option.some.injEq,Prod.mk.injEq] at H
 obtain ⟨rfl,rfl⟩:=H
 go_enter Try.func40,Try.ntmps40
 go_wp2_with (first|((with_reducible refine gate_callee (f:=64) rfl ?_);refine goesL_ (some 9) rfl rfl Try.func64 (by kernel_rfl) rfl #[.string a0] rfl (by (try simp only [List.map_toArray,List.map_cons,List.map_nil]);first|done|rfl|(simp only [List.length_drop,List.length_take];rfl)) ?_;(with_reducible refine (impl_SetSizes.calls k a0 t490 t491 t492 _ A2.out).mono ?_);rintro e w3 ⟨rfl,hb⟩;refine ⟨_,rfl,?_⟩;have n0_:=Aside0.mk (yP (by repeat (first|(with_reducible first|exact HB.out|apply yA|apply yB|apply yC)|exact HB.out)) hb);clear HB;have HB:=n0_;clear n0_;(try clear hb);(try clear hb2);(try clear hk);(try clear hi)))
 go_ret2
 exact ⟨by first|rfl|(simp [errW_none,errW_some]<;>rfl)|(simp [*,errW_none,errW_some]<;>rfl)|(simp [errW_none,errW_some];exact ⟨rfl,rfl⟩),by repeat (first|(with_reducible first|exact HB.out|apply yA|apply yB|apply yC)|exact HB.out)⟩

end Go.Proofs.Ytgheopbdmijlkaa.P

-- The tidy form of a set of numbers told by a tail and a ring is one; texts and what they tell.
namespace Go.Proofs.Ytgheopbdmijlkaa.P
open Go.RowKit Go.Proofs.YtgheopbdmijlkaaW.PrintWords Go.Proofs.YtgheopbdmijlkaaW.PrintLast Go.Proofs.YtgheopbdmijlkaaW.PrintMore
set_option linter.unusedVariables false
set_option linter.unusedSimpArgs false
/-- Is a number in the set of a tail and a ring? -/
def hasB (t r : List Bool) (n : Nat) : Bool := if n < t.length then t.getD n false else r.getD ((n - t.length) % r.length) false

/-- No shorter ring tells the same: of each proper divisor's period some place is not met. -/
def Prim (r : List Bool) : Prop := r ≠ [] ∧ ∀ d, 0 < d → d < r.length → d ∣ r.length → ∃ i, i < r.length ∧ r.getD i false ≠ r.getD (i % d) false

/-- The tidy form. -/
def Canon (t r : List Bool) : Prop := Prim r ∧ (t = [] ∨ t.getD (t.length - 1) false ≠ r.getD (r.length - 1) false)

theorem hasB_tail {t r : List Bool} {n : Nat} (h : n < t.length) : hasB t r n = t.getD n false := by simp [hasB, h]
theorem hasB_ring {t r : List Bool} {i : Nat} : hasB t r (t.length + i) = r.getD (i % r.length) false := by
  unfold hasB; rw [if_neg (by omega)]; congr 2; omega
theorem hasB_ring' {t r : List Bool} {n : Nat} (h : t.length ≤ n) : hasB t r n = r.getD ((n - t.length) % r.length) false := by
  unfold hasB; rw [if_neg (by omega)]

/-- f comes again by p, from m on. -/
def Per (f : Nat → Bool) (m p : Nat) : Prop := ∀ n, m ≤ n → f (n + p) = f n

theorem Per.mono {f : Nat → Bool} {m m' p : Nat} (h : Per f m p) (hm : m ≤ m') : Per f m' p := fun n hn => h n (by omega)
theorem Per.mul {f : Nat → Bool} {m p : Nat} (h : Per f m p) : ∀ k, Per f m (k * p)
  | 0 => fun n _ => by simp
  | k + 1 => fun n hn => by
    have h1 := Per.mul h k n hn
    have h2 := h (n + k * p) (by omega)
    rw [Nat.succ_mul, ← Nat.add_assoc, h2, h1]
theorem Per.dvd {f : Nat → Bool} {m p q : Nat} (h : Per f m p) (hd : p ∣ q) : Per f m q := by
  obtain ⟨k, rfl⟩ := hd
  rw [Nat.mul_comm]; exact h.mul k
theorem hasB_per (t r : List Bool) : Per (hasB t r) t.length r.length := fun n hn => by
  rw [hasB_ring' hn, hasB_ring' (by omega)]
  congr 1
  rw [show n + r.length - t.length = (n - t.length) + r.length by omega, Nat.add_mod_right]

/-- From a point far out on, a number and another one of the same rest. -/
theorem Per.mod {f : Nat → Bool} {m p : Nat} (h : Per f m p) (n : Nat) (hn : m ≤ n) : f n = f (m + (n - m) % p) := by
  have h1 := h.mul ((n - m) / p) (m + (n - m) % p) (by omega)
  rw [← h1]
  congr 1
  have := Nat.mod_add_div (n - m) p
  rw [Nat.mul_comm] at this
  omega

/-- Two numbers' greatest divisor, out of both: g + a q = b p. -/
theorem bezout_nat (p : Nat) : ∀ q, 0 < p → ∃ a b, Nat.gcd p q + a * q = b * p := by
  intro q hp
  have key : ∀ n, ∀ p q : Nat, p + q ≤ n → 0 < p → (∃ a b, Nat.gcd p q + a * q = b * p) := by
    intro n
    induction n with
    | zero => intro p q h hp; omega
    | succ n ih =>
      intro p q h hp
      rcases Nat.eq_zero_or_pos q with rfl | hq
      · exact ⟨0, 1, by simp⟩
      · rcases Nat.lt_or_ge q p with hlt | hge
        · -- q < p: swap
          obtain ⟨a, b, e⟩ := ih q (p % q) (by have := Nat.mod_lt p hq; omega) hq
          -- gcd q (p % q) + a (p % q) = b q
          have hg : Nat.gcd q (p % q) = Nat.gcd p q := by rw [Nat.gcd_comm p q, Nat.gcd_rec q p, Nat.gcd_comm]
          rw [hg] at e
          -- p = q (p/q) + p % q : g + a p = (b + a (p/q)) q ; want g + A q = B p
          have hp2 := Nat.mod_add_div p q
          have e2 : Nat.gcd p q + a * p = (b + a * (p / q)) * q := by
            have : a * p = a * (p % q) + a * (p / q) * q := by
              conv => lhs; rw [← hp2]
              rw [Nat.mul_add, Nat.mul_comm q (p / q), Nat.mul_assoc]
            rw [this, Nat.add_mul, ← Nat.add_assoc, e]
          -- g + a p = c q. take B = a' p with...: g + (k p - c) q = (k q - a) p with k large
          refine ⟨(b + a * (p / q) + a) * p - (b + a * (p / q)), (b + a * (p / q) + a) * q - a, ?_⟩
          generalize hc : b + a * (p / q) = c at e2 ⊢
          have h1 : c ≤ (c + a) * p := Nat.le_trans (Nat.le_add_right c a) (Nat.le_mul_of_pos_right _ hp)
          have h2 : a ≤ (c + a) * q := Nat.le_trans (Nat.le_add_left a c) (Nat.le_mul_of_pos_right _ hq)
          rw [Nat.sub_mul, Nat.sub_mul]
          have h3 : c * q ≤ (c + a) * p * q := Nat.mul_le_mul_right q h1
          have h4 : a * p ≤ (c + a) * q * p := Nat.mul_le_mul_right p h2
          have h5 : (c + a) * p * q = (c + a) * q * p := by rw [Nat.mul_assoc, Nat.mul_comm p q, Nat.mul_assoc]
          omega
        · obtain ⟨a, b, e⟩ := ih p (q - p) (by omega) hp
          have hg : Nat.gcd p (q - p) = Nat.gcd p q := Nat.gcd_sub_self_right hge
          rw [hg] at e
          refine ⟨a, b + a, ?_⟩
          have : a * q = a * (q - p) + a * p := by rw [← Nat.mul_add]; congr 1; omega
          rw [this, ← Nat.add_assoc, e, Nat.add_mul]
  exact key (p + q) p q (Nat.le_refl _) hp

theorem Per.gcd {f : Nat → Bool} {m p q : Nat} (hp : 0 < p) (h : Per f m p) (h' : Per f m q) : Per f m (Nat.gcd p q) := by
  obtain ⟨a, b, e⟩ := bezout_nat p q hp
  intro n hn
  have h1 := h'.mul a (n + Nat.gcd p q) (by omega)
  have h2 := h.mul b n hn
  rw [← h1, Nat.add_assoc, e, h2]

theorem prim_period {t r : List Bool} (h : Prim r) {M g : Nat} (hg : 0 < g) (hd : g ∣ r.length) (hM : t.length ≤ M) (hp : Per (hasB t r) M g) : g = r.length := by
  rcases Nat.lt_or_ge g r.length with hlt | hge
  · exfalso
    obtain ⟨i, hi, hne⟩ := h.2 g hg hlt hd
    apply hne
    -- r[i] = f (m + i + k p) with k p large
    have hpos : 0 < r.length := by omega
    have e1 : ∀ j, j < r.length → r.getD j false = hasB t r (t.length + (j + M * r.length)) := by
      intro j hj
      rw [hasB_ring, Nat.add_mul_mod_self_right, Nat.mod_eq_of_lt hj]
    have hMl : M ≤ M * r.length := Nat.le_mul_of_pos_right _ hpos
    have hmod : i % g < r.length := Nat.lt_of_lt_of_le (Nat.mod_lt i hg) (by omega)
    rw [e1 i hi, e1 (i % g) hmod]
    have := hp.mul (i / g) (t.length + (i % g + M * r.length)) (by omega)
    rw [← this]
    congr 1
    have := Nat.mod_add_div i g
    rw [Nat.mul_comm] at this
    omega
  · exact Nat.le_antisymm (Nat.le_of_dvd (by have := h.1; exact List.length_pos_iff.2 this) hd) hge

/-- THE TIDY FORM IS ONE. -/
theorem canon_unique {t r t' r' : List Bool} (h : Canon t r) (h' : Canon t' r') (he : ∀ n, hasB t r n = hasB t' r' n) : t = t' ∧ r = r' := by
  have hf : hasB t r = hasB t' r' := funext he
  have hr : 0 < r.length := List.length_pos_iff.2 h.1.1
  have hr' : 0 < r'.length := List.length_pos_iff.2 h'.1.1
  have p1 : Per (hasB t r) (t.length + t'.length) r.length := (hasB_per t r).mono (by omega)
  have p2 : Per (hasB t r) (t.length + t'.length) r'.length := by rw [hf]; exact (hasB_per t' r').mono (by omega)
  have pg := p1.gcd hr p2
  have hgp : 0 < Nat.gcd r.length r'.length := Nat.gcd_pos_of_pos_left _ hr
  have e1 := prim_period (M := t.length + t'.length) h.1 hgp (Nat.gcd_dvd_left _ _) (by omega) pg
  have e2 := prim_period (t := t') (M := t.length + t'.length) h'.1 hgp (Nat.gcd_dvd_right _ _) (by omega) (by rw [← hf]; exact pg)
  have hl : r.length = r'.length := by omega
  have aux : ∀ {t r t' r' : List Bool}, Canon t' r' → hasB t r = hasB t' r' → r.length = r'.length → 0 < r.length → ¬ t.length < t'.length := by
    intro t r t' r' h' hf hl hr hlt
    rcases h'.2 with h0 | h0
    · rw [h0] at hlt; simp at hlt
    · apply h0
      have a1 : t'.getD (t'.length - 1) false = hasB t r (t'.length - 1) := by rw [hf, hasB_tail (by omega)]
      have a2 : r'.getD (r'.length - 1) false = hasB t r (t'.length - 1 + r.length) := by
        rw [hf, hl, hasB_ring' (by omega)]
        congr 1
        rw [show t'.length - 1 + r'.length - t'.length = r'.length - 1 by omega, Nat.mod_eq_of_lt (by omega)]
      rw [a1, a2, hasB_per t r _ (by omega)]
  have hm : t.length = t'.length := by
    have b1 := aux h' hf hl hr
    have b2 := aux h hf.symm hl.symm hr'
    omega
  constructor
  · apply List.ext_getElem hm
    intro i h1 h2
    have := he i
    rw [hasB_tail h1, hasB_tail h2] at this
    simpa [List.getD_eq_getElem?_getD, h1, h2] using this
  · apply List.ext_getElem hl
    intro i h1 h2
    have := he (t.length + i)
    rw [hasB_ring, hm, hasB_ring, Nat.mod_eq_of_lt h1, Nat.mod_eq_of_lt h2] at this
    simpa [List.getD_eq_getElem?_getD, h1, h2] using this
/-- d parts the ring's length, and all is as d places ahead. -/
def IsPer (r : List Bool) (d : Nat) : Prop := r.length % d = 0 ∧ ∀ i, d ≤ i → i < r.length → r.getD i false = r.getD (i - d) false

theorem IsPer.mod {r : List Bool} {d : Nat} (h : IsPer r d) (hd : 0 < d) : ∀ i, i < r.length → r.getD i false = r.getD (i % d) false := by
  intro i
  induction i using Nat.strongRecOn with
  | _ i ih =>
    intro hi
    rcases Nat.lt_or_ge i d with hlt | hge
    · rw [Nat.mod_eq_of_lt hlt]
    · rw [h.2 i hge hi, ih (i - d) (by omega) (by omega)]
      congr 1
      conv => rhs; rw [show i = (i - d) + d by omega, Nat.add_mod_right]

theorem IsPer.of_mod {r : List Bool} {d : Nat} (hl : r.length % d = 0) (hd : 0 < d) (h : ∀ i, i < r.length → r.getD i false = r.getD (i % d) false) : IsPer r d := by
  refine ⟨hl, fun i hi hlt => ?_⟩
  rw [h i hlt, h (i - d) (by omega)]
  congr 1
  conv => lhs; rw [show i = (i - d) + d by omega, Nat.add_mod_right]

theorem prim_of {r : List Bool} (hr : r ≠ []) (h : ∀ d, 0 < d → d < r.length → ¬ IsPer r d) : Prim r := by
  refine ⟨hr, fun d h0 hlt hd => ?_⟩
  refine Classical.byContradiction fun hn => ?_
  apply h d h0 hlt
  refine IsPer.of_mod (Nat.mod_eq_zero_of_dvd hd) h0 fun i hi => ?_
  exact Classical.byContradiction fun hne => hn ⟨i, hi, hne⟩

theorem take_has {t r : List Bool} {d : Nat} (h : IsPer r d) (h0 : 0 < d) (hd : d ≤ r.length) (x : Nat) : hasB t (r.take d) x = hasB t r x := by
  rcases Nat.lt_or_ge x t.length with hlt | hge
  · rw [hasB_tail hlt, hasB_tail hlt]
  · rw [hasB_ring' hge, hasB_ring' hge]
    have hl : (r.take d).length = d := by rw [List.length_take]; omega
    have hdv : d ∣ r.length := Nat.dvd_of_mod_eq_zero h.1
    rw [hl, h.mod h0 _ (Nat.mod_lt _ (by omega)), Nat.mod_mod_of_dvd _ hdv]
    simp [List.getD_eq_getElem?_getD, List.getElem?_take, Nat.mod_lt _ h0]

/-- The last sign of the tail goes into the ring. -/
def rotR (r : List Bool) : List Bool := r.getD (r.length - 1) false :: r.take (r.length - 1)
theorem rotR_length {r : List Bool} (hr : r ≠ []) : (rotR r).length = r.length := by
  have := List.length_pos_iff.2 hr
  simp [rotR]; omega
theorem rotR_get {r : List Bool} (hr : r ≠ []) {i : Nat} (hi : i < r.length) : (rotR r).getD i false = if i = 0 then r.getD (r.length - 1) false else r.getD (i - 1) false := by
  cases i with
  | zero => simp [rotR]
  | succ i =>
    simp [rotR, List.getD_eq_getElem?_getD, List.getElem?_take]
    rw [if_pos (by omega)]
theorem rot_has {t r : List Bool} (ht : t ≠ []) (hr : r ≠ []) (h : t.getD (t.length - 1) false = r.getD (r.length - 1) false) (x : Nat) :
    hasB (t.take (t.length - 1)) (rotR r) x = hasB t r x := by
  have hm := List.length_pos_iff.2 ht
  have hn := List.length_pos_iff.2 hr
  have hl : (t.take (t.length - 1)).length = t.length - 1 := by rw [List.length_take]; omega
  rcases Nat.lt_or_ge x (t.length - 1) with hlt | hge
  · rw [hasB_tail (by omega), hasB_tail (by omega)]
    simp only [List.getD_eq_getElem?_getD, List.getElem?_take, if_pos hlt]
  · rw [hasB_ring' (by omega), hl, rotR_length hr]
    have hmod := Nat.mod_lt (x - (t.length - 1)) hn
    rw [rotR_get hr hmod]
    rcases Nat.eq_or_lt_of_le hge with he | hgt
    · rw [← he, Nat.sub_self, Nat.zero_mod, if_pos rfl, hasB_tail (by omega), h]
    · rw [hasB_ring' (by omega), show x - (t.length - 1) = (x - t.length) + 1 by omega]
      have hmod2 := Nat.mod_lt (x - t.length) hn
      rcases Nat.eq_or_lt_of_le (show (x - t.length) % r.length + 1 ≤ r.length by omega) with he | hlt
      · have : ((x - t.length) + 1) % r.length = 0 := by rw [Nat.add_mod]; rcases Nat.eq_or_lt_of_le (show 1 ≤ r.length from hn) with h1 | h1
                                                         · rw [← h1]; exact Nat.mod_one _
                                                         · rw [Nat.mod_eq_of_lt h1, he, Nat.mod_self]
        rw [this, if_pos rfl]; congr 1; omega
      · have : ((x - t.length) + 1) % r.length = (x - t.length) % r.length + 1 := by
          rw [Nat.add_mod, Nat.mod_eq_of_lt (show 1 < r.length by omega), Nat.mod_eq_of_lt hlt]
        rw [this, if_neg (by omega), Nat.add_sub_cancel]

theorem prim_rot {r : List Bool} (h : Prim r) : Prim (rotR r) := by
  have hr := h.1
  have hn := List.length_pos_iff.2 hr
  refine prim_of (by simp [rotR]) fun d h0 hlt hp => ?_
  rw [rotR_length hr] at hlt
  have hd : d ∣ r.length := by rw [← rotR_length hr]; exact Nat.dvd_of_mod_eq_zero hp.1
  have e : hasB [r.getD (r.length - 1) false] r = hasB [] (rotR r) := funext fun x => by
    have := rot_has (t := [r.getD (r.length - 1) false]) (by simp) hr (by simp) x
    rw [← this]; simp
  have hper : Per (hasB [r.getD (r.length - 1) false] r) 1 d := by
    rw [e]
    intro n _
    have e1 := take_has (t := []) hp h0 (by rw [rotR_length hr]; omega)
    rw [← e1, ← e1]
    have := hasB_per [] ((rotR r).take d) n (by simp)
    rwa [List.length_take, rotR_length hr, Nat.min_eq_left (by omega)] at this
  have := prim_period (t := [r.getD (r.length - 1) false]) (M := 1) h h0 hd (by simp) hper
  omega

/-- (t', r') is the tidy form of (t, r). -/
structure Tidy (t r t' r' : List Bool) : Prop where
  canon : Canon t' r'
  has : ∀ n, hasB t' r' n = hasB t r n
  tl : t'.length ≤ t.length
  rl : r'.length ≤ r.length
theorem Tidy.same {t r t' r' a b : List Bool} (h : Tidy t r t' r') (h' : Tidy t r a b) : t' = a ∧ r' = b := canon_unique h.canon h'.canon fun n => by rw [h.has, h'.has]
theorem Tidy.pos {t r t' r' : List Bool} (h : Tidy t r t' r') : 0 < r'.length := List.length_pos_iff.2 h.canon.1.1
theorem prim_take {r : List Bool} {d : Nat} (hd : 0 < d) (hdl : d ≤ r.length) (hp : IsPer r d) (hmin : ∀ d', 0 < d' → d' < d → ¬ IsPer r d') : Prim (r.take d) := by
  have hl : (r.take d).length = d := by rw [List.length_take]; omega
  refine prim_of (by intro e; rw [e] at hl; simp at hl; omega) fun d' h0 h1 h2 => ?_
  rw [hl] at h1
  apply hmin d' h0 h1
  have g1 : ∀ i, i < d → (r.take d).getD i false = r.getD i false := fun i hi => by simp only [List.getD_eq_getElem?_getD, List.getElem?_take, if_pos hi]
  have hdd : d' ∣ d := by rw [← hl]; exact Nat.dvd_of_mod_eq_zero h2.1
  refine IsPer.of_mod (Nat.mod_eq_zero_of_dvd (Nat.dvd_trans hdd (Nat.dvd_of_mod_eq_zero hp.1))) h0 fun i hi => ?_
  have a1 := hp.mod hd i hi
  have hm := Nat.mod_lt i hd
  have a2 := h2.mod h0 (i % d) (by rw [hl]; exact hm)
  rw [g1 _ hm, g1 _ (Nat.lt_trans (Nat.mod_lt _ h0) h1), Nat.mod_mod_of_dvd _ hdd] at a2
  rw [a1, a2]

theorem tidy_exists : ∀ (n : Nat) (t r : List Bool), t.length + r.length = n → r ≠ [] → ∃ t' r', Tidy t r t' r' := by
  intro n
  induction n using Nat.strongRecOn with
  | _ n ih =>
    intro t r hn hr
    have hpos := List.length_pos_iff.2 hr
    by_cases hex : ∃ d, 0 < d ∧ d < r.length ∧ IsPer r d
    · obtain ⟨d, h0, hd, hp⟩ := hex
      have hlt : (r.take d).length = d := by rw [List.length_take]; omega
      obtain ⟨t', r', h⟩ := ih (t.length + (r.take d).length) (by omega) t (r.take d) rfl (by intro e; rw [e] at hlt; simp at hlt; omega)
      exact ⟨t', r', h.canon, fun x => by rw [h.has, take_has hp h0 (by omega)], h.tl, by have := h.rl; omega⟩
    · have hprim : Prim r := prim_of hr fun d h0 h1 hp => hex ⟨d, h0, h1, hp⟩
      by_cases ht : t = []
      · exact ⟨t, r, ⟨hprim, .inl ht⟩, fun _ => rfl, Nat.le_refl _, Nat.le_refl _⟩
      · have htp := List.length_pos_iff.2 ht
        by_cases he : t.getD (t.length - 1) false = r.getD (r.length - 1) false
        · obtain ⟨t', r', h⟩ := ih ((t.take (t.length - 1)).length + (rotR r).length) (by rw [rotR_length hr, List.length_take]; omega) (t.take (t.length - 1)) (rotR r) rfl (by simp [rotR])
          exact ⟨t', r', h.canon, fun x => by rw [h.has, rot_has ht hr he], by have := h.tl; rw [List.length_take] at this; omega, by have := h.rl; rw [rotR_length hr] at this; omega⟩
        · exact ⟨t, r, ⟨hprim, .inr he⟩, fun _ => rfl, Nat.le_refl _, Nat.le_refl _⟩

/-- The tidy tail and ring of a set. -/
noncomputable def cn (f : Nat → Bool) : List Bool × List Bool :=
  open Classical in if h : ∃ p : List Bool × List Bool, Canon p.1 p.2 ∧ hasB p.1 p.2 = f then Classical.choose h else ([], [])
theorem cn_uniq {t r : List Bool} {f : Nat → Bool} (h : Canon t r) (hf : hasB t r = f) : cn f = (t, r) := by
  have hx : ∃ p : List Bool × List Bool, Canon p.1 p.2 ∧ hasB p.1 p.2 = f := ⟨(t, r), h, hf⟩
  unfold cn
  rw [dif_pos hx]
  have hs := Classical.choose_spec hx
  obtain ⟨e1, e2⟩ := canon_unique hs.1 h fun n => by rw [hs.2, hf]
  exact Prod.ext e1 e2
theorem Tidy.cn {t r t' r' : List Bool} (h : Tidy t r t' r') : cn (hasB t r) = (t', r') := cn_uniq h.canon (funext h.has)
theorem cn_tidy {t r : List Bool} (hr : r ≠ []) : Tidy t r (cn (hasB t r)).1 (cn (hasB t r)).2 := by
  obtain ⟨t', r', h⟩ := tidy_exists _ t r rfl hr
  rw [h.cn]; exact h

/-- The signs of a set: the first m, and the p behind these. -/
def mkT (f : Nat → Bool) (m : Nat) : List Bool := (List.range m).map f
def mkR (f : Nat → Bool) (m p : Nat) : List Bool := (List.range p).map fun i => f (m + i)
theorem mkT_length (f : Nat → Bool) (m : Nat) : (mkT f m).length = m := by simp [mkT]
theorem mkR_length (f : Nat → Bool) (m p : Nat) : (mkR f m p).length = p := by simp [mkR]
theorem mkT_get (f : Nat → Bool) {m i : Nat} (h : i < m) : (mkT f m).getD i false = f i := by simp [mkT, List.getD_eq_getElem?_getD, h]
theorem mkR_get (f : Nat → Bool) {m p i : Nat} (h : i < p) : (mkR f m p).getD i false = f (m + i) := by simp [mkR, List.getD_eq_getElem?_getD, h]
theorem mkR_ne (f : Nat → Bool) {m p : Nat} (h : 0 < p) : mkR f m p ≠ [] := by intro e; have := mkR_length f m p; rw [e] at this; simp at this; omega
theorem mk_has {f : Nat → Bool} {m p : Nat} (hp : 0 < p) (h : Per f m p) : hasB (mkT f m) (mkR f m p) = f := by
  funext x
  rcases Nat.lt_or_ge x m with hlt | hge
  · rw [hasB_tail (by rw [mkT_length]; exact hlt), mkT_get f hlt]
  · rw [hasB_ring' (by rw [mkT_length]; exact hge), mkT_length, mkR_length, mkR_get f (Nat.mod_lt _ hp), ← h.mod x hge]
theorem mkT_succ (f : Nat → Bool) (m : Nat) : mkT f (m + 1) = mkT f m ++ [f m] := by simp [mkT, List.range_succ]
theorem mkR_succ (f : Nat → Bool) (m p : Nat) : mkR f m (p + 1) = mkR f m p ++ [f (m + p)] := by simp [mkR, List.range_succ]
theorem mkT_add (f : Nat → Bool) (m p : Nat) : mkT f (m + p) = mkT f m ++ mkR f m p := by
  induction p with
  | zero => simp [mkR]
  | succ p ih => rw [← Nat.add_assoc, mkT_succ, ih, mkR_succ, List.append_assoc]
theorem mkT_take (f : Nat → Bool) (m p : Nat) : (mkT f (m + p)).take m = mkT f m := by rw [mkT_add, List.take_left' (mkT_length f m)]
theorem mkT_drop (f : Nat → Bool) (m p : Nat) : (mkT f (m + p)).drop m = mkR f m p := by rw [mkT_add, List.drop_left' (mkT_length f m)]

theorem cn_spec {f : Nat → Bool} {m p : Nat} (hp : 0 < p) (h : Per f m p) : Canon (cn f).1 (cn f).2 ∧ hasB (cn f).1 (cn f).2 = f ∧ (cn f).1.length ≤ m ∧ (cn f).2.length ≤ p := by
  have ht := cn_tidy (t := mkT f m) (mkR_ne f (m := m) hp)
  rw [mk_has hp h] at ht
  refine ⟨ht.canon, funext fun n => by rw [ht.has, mk_has hp h], ?_, ?_⟩
  · have := ht.tl; rwa [mkT_length] at this
  · have := ht.rl; rwa [mkR_length] at this
theorem cn_has {f : Nat → Bool} {m p : Nat} (hp : 0 < p) (h : Per f m p) : hasB (cn f).1 (cn f).2 = f := (cn_spec hp h).2.1
theorem cn_ne {f : Nat → Bool} {m p : Nat} (hp : 0 < p) (h : Per f m p) : (cn f).2 ≠ [] := (cn_spec hp h).1.1.1

/-- The least number by which the rest is the same. -/
def restN (t r : List Bool) (k : Nat) : Nat := if k < t.length then k else t.length + (k - t.length) % r.length
theorem restN_lt {t r : List Bool} (hr : 0 < r.length) (k : Nat) : restN t r k < t.length + r.length := by
  unfold restN
  have := Nat.mod_lt (k - t.length) hr
  split <;> omega
theorem restN_self {t r : List Bool} {k : Nat} (h : k < t.length + r.length) : restN t r k = k := by
  unfold restN
  split
  · rfl
  · rw [Nat.mod_eq_of_lt (by omega)]; omega
theorem restN_idem {t r : List Bool} (hr : 0 < r.length) (k : Nat) : restN t r (restN t r k) = restN t r k := restN_self (restN_lt hr k)
theorem restN_le {t r : List Bool} (k : Nat) : restN t r k ≤ k := by
  unfold restN
  split
  · exact Nat.le_refl _
  · have := Nat.mod_le (k - t.length) r.length; omega
theorem has_restN {t r : List Bool} (hr : 0 < r.length) (k n : Nat) : hasB t r (n + k) = hasB t r (n + restN t r k) := by
  unfold restN
  split
  · rfl
  · rename_i h
    have hp := hasB_per t r
    have h1 := hp.mul ((k - t.length) / r.length) (n + (t.length + (k - t.length) % r.length)) (by omega)
    rw [← h1]
    congr 1
    have := Nat.mod_add_div (k - t.length) r.length
    rw [Nat.mul_comm] at this
    omega
/-- Rests by two lesser numbers are different. -/
theorem rest_diff {t r : List Bool} (h : Canon t r) {i j : Nat} (hij : i < j) (hj : j < t.length + r.length) (he : ∀ n, hasB t r (n + i) = hasB t r (n + j)) : False := by
  have hr := List.length_pos_iff.2 h.1.1
  have hd : Per (hasB t r) i (j - i) := fun n hn => by
    have := he (n - i)
    rw [show n - i + i = n by omega, show n - i + j = n + (j - i) by omega] at this
    exact this.symm
  have hg := (hd.mono (m' := max i t.length) (by omega)).gcd (by omega) ((hasB_per t r).mono (m' := max i t.length) (by omega))
  have hgp : 0 < Nat.gcd (j - i) r.length := Nat.gcd_pos_of_pos_left _ (by omega)
  have e := prim_period (t := t) (M := max i t.length) h.1 hgp (Nat.gcd_dvd_right _ _) (by omega) hg
  have hdv : r.length ∣ j - i := by rw [← e]; exact Nat.gcd_dvd_left _ _
  have hle := Nat.le_of_dvd (by omega) hdv
  rcases Nat.lt_or_ge i t.length with hlt | hge
  · rcases h.2 with h0 | h0
    · rw [h0] at hlt; simp at hlt
    · apply h0
      have h1 := hd (t.length - 1) (by omega)
      rw [hasB_tail (show t.length - 1 < t.length by omega), hasB_ring' (by omega)] at h1
      rw [← h1]
      congr 1
      obtain ⟨c, hc⟩ := hdv
      have hc0 : 0 < c := by rcases Nat.eq_zero_or_pos c with h | h; rw [h, Nat.mul_zero] at hc; omega; exact h
      have hmul : r.length * c = r.length * (c - 1) + r.length := by
        rw [← Nat.mul_succ]; congr 1; omega
      rw [hc, show t.length - 1 + r.length * c - t.length = (r.length - 1) + r.length * (c - 1) by omega, Nat.add_mul_mod_self_left, Nat.mod_eq_of_lt (by omega)]
  · omega
theorem rest_same {t r : List Bool} (h : Canon t r) (i j : Nat) : (∀ n, hasB t r (n + i) = hasB t r (n + j)) ↔ restN t r i = restN t r j := by
  have hr := List.length_pos_iff.2 h.1.1
  constructor
  · intro he
    have he2 : ∀ n, hasB t r (n + restN t r i) = hasB t r (n + restN t r j) := fun n => by rw [← has_restN hr, ← has_restN hr, he]
    rcases Nat.lt_trichotomy (restN t r i) (restN t r j) with hlt | heq | hgt
    · exact (rest_diff h hlt (restN_lt hr j) he2).elim
    · exact heq
    · exact (rest_diff h hgt (restN_lt hr i) fun n => (he2 n).symm).elim
  · intro he n
    rw [has_restN hr i, has_restN hr j, he]

theorem bitsL_length : ∀ {s : List UInt8} {l : List Bool}, bitsL s = some l → l.length = s.length
  | [], l, h => by simp [bitsL] at h; subst h; rfl
  | c :: cs, l, h => by
    simp only [bitsL] at h
    split at h
    · obtain ⟨q, hq, rfl⟩ := Option.map_eq_some_iff.1 h; simp [bitsL_length hq]
    · split at h
      · obtain ⟨q, hq, rfl⟩ := Option.map_eq_some_iff.1 h; simp [bitsL_length hq]
      · cases h
theorem bitsL_sgn : ∀ l : List Bool, bitsL (l.map sgn) = some l
  | [] => rfl
  | b :: l => by cases b <;> simp [bitsL, sgn, bitsL_sgn l]
theorem byteArray_empty_chrs : chrs (⟨#[]⟩ : ByteArray) = [] := rfl
/-- A set text: its tail and its ring. -/
def parse (s : List UInt8) : Option (List Bool × List Bool) :=
  if s.findIdx (· == 40) + 2 < s.length ∧ s[s.length - 1]? = some 41 then
    match bitsL (s.take (s.findIdx (· == 40))), bitsL ((s.take (s.length - 1)).drop (s.findIdx (· == 40) + 1)) with
    | some a, some b => if a.length ≤ 60 ∧ b.length ≤ 60 then some (a, b) else none
    | _, _ => none
  else none
def parsed (s : ByteArray) (t r : List Bool) : List Bool × List Bool × Bool := match parse (chrs s) with | some (a, b) => (a, b, true) | none => (t, r, false)

theorem parse_some {s : List UInt8} {a b : List Bool} (h : parse s = some (a, b)) : a.length ≤ 60 ∧ b.length ≤ 60 ∧ b ≠ [] := by
  unfold parse at h
  split at h
  · rename_i hc
    split at h
    · rename_i x y hx hy
      split at h
      · rename_i hl
        simp only [Option.some.injEq, Prod.mk.injEq] at h
        obtain ⟨rfl, rfl⟩ := h
        refine ⟨hl.1, hl.2, fun e => ?_⟩
        have := bitsL_length hy
        rw [e] at this
        simp at this
        omega
      · cases h
    · cases h
  · cases h


/-- The text of a set, and true; false if it is too long. -/
def txt (p : List Bool × List Bool) : ByteArray × Bool := if p.1.length ≤ 60 ∧ p.2.length ≤ 60 then (textOf p.1 p.2, true) else (⟨#[]⟩, false)
theorem txt_ok {p : List Bool × List Bool} (h1 : p.1.length ≤ 60) (h2 : p.2.length ≤ 60) : txt p = (textOf p.1 p.2, true) := by unfold txt; rw [if_pos ⟨h1, h2⟩]
theorem chrs_append (a b : ByteArray) : chrs (a ++ b) = chrs a ++ chrs b := by simp [chrs, ByteArray.data_append]
theorem parse_ne {s : List UInt8} {a b : List Bool} (h : parse s = some (a, b)) : b ≠ [] := (parse_some h).2.2
theorem findIdx_sgn (t : List Bool) (l : List UInt8) : (t.map sgn ++ 40 :: l).findIdx (· == 40) = t.length := by
  induction t with
  | nil => rfl
  | cons b t ih =>
    rw [List.map_cons, List.cons_append, List.findIdx_cons, ih]
    cases b <;> rfl
/-- A text reads as what it was written of. -/
theorem parse_textOf {t r : List Bool} (ht : t.length ≤ 60) (hr : r.length ≤ 60) (hn : r ≠ []) : parse (chrs (textOf t r)) = some (t, r) := by
  have hpos := List.length_pos_iff.2 hn
  have e : chrs (textOf t r) = t.map sgn ++ 40 :: (r.map sgn ++ [41]) := by rw [chrs_textOf]; simp
  rw [e]
  unfold parse
  rw [findIdx_sgn]
  have hl : (t.map sgn ++ 40 :: (r.map sgn ++ [41])).length = t.length + (r.length + 2) := by simp
  rw [hl, if_pos]
  · have e1 : (t.map sgn ++ 40 :: (r.map sgn ++ [41])).take t.length = t.map sgn := by rw [List.take_left']; simp
    have e2 : ((t.map sgn ++ 40 :: (r.map sgn ++ [41])).take (t.length + (r.length + 2) - 1)).drop (t.length + 1) = r.map sgn := by
      rw [show t.map sgn ++ 40 :: (r.map sgn ++ [41]) = (t.map sgn ++ 40 :: r.map sgn) ++ [41] by simp, List.take_left' (by simp <;> omega), show t.map sgn ++ 40 :: r.map sgn = (t.map sgn ++ [40]) ++ r.map sgn by simp, List.drop_left' (by simp)]
    rw [e1, e2, bitsL_sgn, bitsL_sgn]
    simp only
    rw [if_pos ⟨ht, hr⟩]
  · refine ⟨by omega, ?_⟩
    rw [show t.map sgn ++ 40 :: (r.map sgn ++ [41]) = (t.map sgn ++ 40 :: r.map sgn) ++ [41] by simp, List.getElem?_append_right (by simp <;> omega)]
    rw [show t.length + (r.length + 2) - 1 - (t.map sgn ++ 40 :: r.map sgn).length = 0 by simp <;> omega]; rfl
theorem textOf_inj {t r t' r' : List Bool} (ht : t.length ≤ 60) (hr : r.length ≤ 60) (hn : r ≠ []) (ht' : t'.length ≤ 60) (hr' : r'.length ≤ 60) (hn' : r' ≠ []) (h : textOf t r = textOf t' r') : t = t' ∧ r = r' := by
  have h1 := parse_textOf ht hr hn
  rw [h, parse_textOf ht' hr' hn'] at h1
  simp only [Option.some.injEq, Prod.mk.injEq] at h1
  exact ⟨h1.1.symm, h1.2.symm⟩
theorem textOf_size (t r : List Bool) : (textOf t r).size = t.length + r.length + 2 := by
  rw [← chrs_length, chrs_textOf]; simp <;> omega


end Go.Proofs.Ytgheopbdmijlkaa.P

-- Texts of rests: as many as the tidy text has signs.
namespace Go.Proofs.Ytgheopbdmijlkaa.P
open Go.RowKit Go.Proofs.YtgheopbdmijlkaaW.PrintWords Go.Proofs.YtgheopbdmijlkaaW.PrintLast Go.Proofs.YtgheopbdmijlkaaW.PrintMore
set_option linter.unusedVariables false
set_option linter.unusedSimpArgs false

/-- A set, k taken away. -/
def shf (f : Nat → Bool) (k : Nat) : Nat → Bool := fun n => f (n + k)
theorem shf_per {f : Nat → Bool} {m p : Nat} (h : Per f m p) (k : Nat) : Per (shf f k) (m - k) p := fun n hn => by
  unfold shf
  rw [show n + p + k = n + k + p by omega]; exact h _ (by omega)
/-- The text of the rest by k. -/
noncomputable def rtext (f : Nat → Bool) (k : Nat) : ByteArray := textOf (cn (shf f k)).1 (cn (shf f k)).2
/-- The place of the rest by k. -/
noncomputable def rpl (f : Nat → Bool) (k : Nat) : Nat := restN (cn f).1 (cn f).2 k
/-- How many rests. -/
noncomputable def rnum (f : Nat → Bool) : Nat := (cn f).1.length + (cn f).2.length
section
variable {f : Nat → Bool} {m p : Nat}
theorem rpl_lt (hp : 0 < p) (h : Per f m p) (k : Nat) : rpl f k < rnum f := restN_lt (List.length_pos_iff.2 (cn_ne hp h)) k
theorem rpl_self {k : Nat} (hk : k < rnum f) : rpl f k = k := restN_self hk
theorem rpl_le (k : Nat) : rpl f k ≤ k := restN_le k
theorem rnum_le (hp : 0 < p) (h : Per f m p) : rnum f ≤ m + p := by
  have := cn_spec hp h
  unfold rnum; omega
theorem rpl_eq (hp : 0 < p) (h : Per f m p) (i j : Nat) : shf f i = shf f j ↔ rpl f i = rpl f j := by
  have hs := cn_spec hp h
  have := rest_same hs.1 i j
  rw [hs.2.1] at this
  constructor
  · intro e; exact this.1 fun n => congrFun e n
  · intro e; exact funext (this.2 e)
theorem rtext_eq (hp : 0 < p) (h : Per f m p) (hm : m ≤ 60) (hp2 : p ≤ 60) (i j : Nat) : rtext f i = rtext f j ↔ rpl f i = rpl f j := by
  rw [← rpl_eq hp h]
  have si := cn_spec hp (shf_per h i)
  have sj := cn_spec hp (shf_per h j)
  constructor
  · intro e
    obtain ⟨e1, e2⟩ := textOf_inj (by omega) (by omega) si.1.1.1 (by omega) (by omega) sj.1.1.1 e
    rw [← si.2.1, ← sj.2.1, e1, e2]
  · intro e; unfold rtext; rw [e]
end

end Go.Proofs.Ytgheopbdmijlkaa.P

-- The tidy text of a text.
namespace Go.Proofs.Ytgheopbdmijlkaa.P
open Go.RowKit Go.Proofs.YtgheopbdmijlkaaW.PrintWords Go.Proofs.YtgheopbdmijlkaaW.PrintLast Go.Proofs.YtgheopbdmijlkaaW.PrintMore
set_option linter.unusedVariables false
set_option linter.unusedSimpArgs false

theorem parse_len {s : List UInt8} {a b : List Bool} (h : parse s = some (a, b)) : s.length = a.length + b.length + 2 := by
  unfold parse at h
  split at h
  · rename_i hc
    split at h
    · rename_i x y hx hy
      split at h
      · simp only [Option.some.injEq, Prod.mk.injEq] at h
        obtain ⟨rfl, rfl⟩ := h
        have h1 := bitsL_length hx
        have h2 := bitsL_length hy
        simp only [List.length_take, List.length_drop] at h1 h2
        omega
      · cases h
    · cases h
  · cases h
/-- The set of a text. -/
def setf (s : List UInt8) : Nat → Bool := match parse s with | some (a, b) => hasB a b | none => fun _ => false
theorem setf_some {s : List UInt8} {a b : List Bool} (h : parse s = some (a, b)) : setf s = hasB a b := by unfold setf; rw [h]
/-- What SetTidy answers. -/
noncomputable def tdy (s : List UInt8) : ByteArray × Bool := match parse s with | some (a, b) => (textOf (cn (hasB a b)).1 (cn (hasB a b)).2, true) | none => (⟨#[]⟩, false)
theorem tdy_some {s : List UInt8} {a b : List Bool} (h : parse s = some (a, b)) : tdy s = (textOf (cn (hasB a b)).1 (cn (hasB a b)).2, true) := by unfold tdy; rw [h]
theorem tdy_none {s : List UInt8} (h : parse s = none) : tdy s = (⟨#[]⟩, false) := by unfold tdy; rw [h]
/-- The tidy text is a text of the same set, tail and ring tidy. -/
theorem parse_cn {f : Nat → Bool} {m p : Nat} (hp : 0 < p) (h : Per f m p) (hm : (cn f).1.length ≤ 60) (hp2 : (cn f).2.length ≤ 60) : parse (chrs (textOf (cn f).1 (cn f).2)) = some ((cn f).1, (cn f).2) :=
  parse_textOf hm hp2 (cn_ne hp h)
theorem cn_cn {f : Nat → Bool} {m p : Nat} (hp : 0 < p) (h : Per f m p) : cn (hasB (cn f).1 (cn f).2) = cn f := by rw [cn_has hp h]
theorem parse_per {s : List UInt8} {a b : List Bool} (h : parse s = some (a, b)) : 0 < b.length ∧ Per (hasB a b) a.length b.length := ⟨List.length_pos_iff.2 (parse_some h).2.2, hasB_per a b⟩
theorem parse_tdy {s : List UInt8} {a b : List Bool} (h : parse s = some (a, b)) : parse (chrs (tdy s).1) = some ((cn (hasB a b)).1, (cn (hasB a b)).2) := by
  obtain ⟨h1, h2⟩ := parse_per h
  have h3 := (cn_spec h1 h2).2.2
  have h4 := parse_some h
  rw [tdy_some h]
  exact parse_cn h1 h2 (by omega) (by omega)
theorem tdy_tdy {s : List UInt8} {a b : List Bool} (h : parse s = some (a, b)) : tdy (chrs (tdy s).1) = tdy s := by
  obtain ⟨h1, h2⟩ := parse_per h
  rw [tdy_some (parse_tdy h), tdy_some h, cn_cn h1 h2]
theorem tdy_size {s : List UInt8} {a b : List Bool} (h : parse s = some (a, b)) : (tdy s).1.size ≤ s.length := by
  obtain ⟨h1, h2⟩ := parse_per h
  have h3 := (cn_spec h1 h2).2.2
  rw [tdy_some h, textOf_size, parse_len h]
  show (cn (hasB a b)).1.length + _ + 2 ≤ _
  omega
/-- Whether two texts tell the same set. -/
noncomputable def sameS (s t : List UInt8) : Bool := (tdy s).2 && (tdy t).2 && ((tdy s).1.toList == (tdy t).1.toList)
theorem tdy_ok {s : List UInt8} : (tdy s).2 = (parse s).isSome := by
  cases h : parse s with
  | none => rw [tdy_none h]; rfl
  | some ab => rw [tdy_some (a := ab.1) (b := ab.2) h]; rfl
theorem sameS_comm (s t : List UInt8) : sameS s t = sameS t s := by
  unfold sameS
  have e : ((tdy s).1.toList == (tdy t).1.toList) = ((tdy t).1.toList == (tdy s).1.toList) := by
    rw [Bool.eq_iff_iff, beq_iff_eq, beq_iff_eq]; exact eq_comm
  rw [e, Bool.and_comm (tdy s).2]
theorem toList_inj {a b : ByteArray} (h : a.toList = b.toList) : a = b := by
  rw [ByteArray.toList_eq, ByteArray.toList_eq] at h
  exact chrs_inj h
theorem sameS_some {s t : List UInt8} {a b c d : List Bool} (h : parse s = some (a, b)) (h' : parse t = some (c, d)) : sameS s t = true ↔ hasB a b = hasB c d := by
  obtain ⟨h1, h2⟩ := parse_per h
  obtain ⟨h1', h2'⟩ := parse_per h'
  have s1 := cn_spec h1 h2
  have s2 := cn_spec h1' h2'
  have q1 := parse_some h
  have q2 := parse_some h'
  unfold sameS
  rw [tdy_some h, tdy_some h']
  simp only [Bool.true_and, Bool.and_true, beq_iff_eq]
  constructor
  · intro e
    have := textOf_inj (by omega) (by omega) (cn_ne h1 h2) (by omega) (by omega) (cn_ne h1' h2') (toList_inj e)
    rw [← s1.2.1, ← s2.2.1, this.1, this.2]
  · intro e; rw [e]

end Go.Proofs.Ytgheopbdmijlkaa.P

-- Two sets together: from which number on, and by how many, both come again.
namespace Go.Proofs.Ytgheopbdmijlkaa.P
open Go.RowKit Go.Proofs.YtgheopbdmijlkaaW.PrintWords Go.Proofs.YtgheopbdmijlkaaW.PrintLast Go.Proofs.YtgheopbdmijlkaaW.PrintMore
set_option linter.unusedVariables false
set_option linter.unusedSimpArgs false

/-- Whether something holds. -/
noncomputable def dec (p : Prop) : Bool := @decide p (Classical.propDecidable p)
theorem dec_iff {p : Prop} : dec p = true ↔ p := by unfold dec; exact @decide_eq_true_iff p (Classical.propDecidable p)
theorem dec_true {p : Prop} (h : p) : dec p = true := dec_iff.2 h
theorem dec_false {p : Prop} (h : ¬ p) : dec p = false := by
  cases e : dec p with
  | false => rfl
  | true => exact absurd (dec_iff.1 e) h
theorem dec_congr {p q : Prop} (h : p ↔ q) : dec p = dec q := by rw [show p = q from propext h]
theorem Per.lcm_left {f : Nat → Bool} {m p : Nat} (h : Per f m p) (m' p' : Nat) : Per f (max m m') (Nat.lcm p p') := (h.mono (by omega)).dvd (Nat.dvd_lcm_left p p')
theorem Per.lcm_right {f : Nat → Bool} {m p : Nat} (h : Per f m p) (m' p' : Nat) : Per f (max m' m) (Nat.lcm p' p) := (h.mono (by omega)).dvd (Nat.dvd_lcm_right p' p)
theorem per_all {f g : Nat → Bool} {m p : Nat} (hp : 0 < p) (hf : Per f m p) (hg : Per g m p) {q : Bool → Bool → Prop} (h : ∀ n, n < m + p → q (f n) (g n)) : ∀ n, q (f n) (g n) := fun n => by
  rcases Nat.lt_or_ge n m with hn | hn
  · exact h n (by omega)
  · rw [hf.mod n hn, hg.mod n hn]
    exact h _ (by have := Nat.mod_lt (n - m) hp; omega)
theorem pair_per {f g : Nat → Bool} {m p : Nat} (hf : Per f m p) (hg : Per g m p) (q : Bool → Bool → Bool) : Per (fun n => q (f n) (g n)) m p := fun n hn => by
  show q (f (n + p)) (g (n + p)) = _
  rw [hf n hn, hg n hn]
theorem lcm_small {m n : Nat} (hm : m ≤ 60) (hn : n ≤ 60) : Nat.lcm m n ≤ 3600 := by
  have h1 : Nat.lcm m n ≤ m * n := by unfold Nat.lcm; exact Nat.div_le_self _ _
  have h2 : m * n ≤ 60 * 60 := Nat.mul_le_mul hm hn
  omega
/-- Whether each number of the first one is in the second one. -/
noncomputable def bel (s t : List UInt8) : Bool := (parse s).isSome && (parse t).isSome && dec (∀ n, setf s n = true → setf t n = true)
theorem bel_some {s t : List UInt8} {a b c d : List Bool} (h : parse s = some (a, b)) (h' : parse t = some (c, d)) : bel s t = dec (∀ n, hasB a b n = true → hasB c d n = true) := by
  unfold bel; rw [h, h', setf_some h, setf_some h']; rfl
theorem bel_none1 {s t : List UInt8} (h : parse s = none) : bel s t = false := by unfold bel; rw [h]; rfl
theorem bel_none2 {s t : List UInt8} (h : parse t = none) : bel s t = false := by unfold bel; rw [h]; simp
theorem sameS_none1 {s t : List UInt8} (h : parse s = none) : sameS s t = false := by unfold sameS; rw [tdy_none h]; rfl
theorem sameS_none2 {s t : List UInt8} (h : parse t = none) : sameS s t = false := by unfold sameS; rw [tdy_none h]; simp
theorem bel_same (s t : List UInt8) : (bel s t && bel t s) = sameS s t := by
  cases h : parse s with
  | none => rw [bel_none1 h, sameS_none1 h]; rfl
  | some ab =>
    cases h' : parse t with
    | none => rw [bel_none2 h', sameS_none2 h']; rfl
    | some cd =>
      rw [Bool.eq_iff_iff, Bool.and_eq_true, bel_some (a := ab.1) (b := ab.2) (c := cd.1) (d := cd.2) h h', bel_some (a := cd.1) (b := cd.2) (c := ab.1) (d := ab.2) h' h, dec_iff, dec_iff, sameS_some (a := ab.1) (b := ab.2) (c := cd.1) (d := cd.2) h h']
      constructor
      · rintro ⟨h1, h2⟩
        funext n
        rw [Bool.eq_iff_iff]
        exact ⟨h1 n, h2 n⟩
      · intro e; rw [e]; exact ⟨fun _ x => x, fun _ x => x⟩

/-- What a set of two ones is. -/
noncomputable def two (op : Bool → Bool → Bool) (s t : List UInt8) : ByteArray × Bool := if (parse s).isSome && (parse t).isSome then txt (cn fun n => op (setf s n) (setf t n)) else (⟨#[]⟩, false)

end Go.Proofs.Ytgheopbdmijlkaa.P

-- slices.IndexFunc and slices.ContainsFunc over a question that is answered.
namespace Go.Proofs.Ytgheopbdmijlkaa.P
open Go.RowKit Go.Proofs.YtgheopbdmijlkaaW.PrintWords Go.Proofs.YtgheopbdmijlkaaW.PrintLast Go.Proofs.YtgheopbdmijlkaaW.PrintMore
set_option linter.unusedVariables false
set_option linter.unusedSimpArgs false

/-- Whether a question holds of some number of a list. -/
noncomputable def anyI (l : List Int) (q : Int → Bool) : Bool := dec (∃ i : Nat, i < l.length ∧ q (rd l (i : Int)) = true)

set_option maxHeartbeats 8000000 in
set_option maxRecDepth 100000 in
theorem indexFunc_calls (l : List Int) (hl : l.length ≤ 1000000000000) (A : Option Addr) (c : Nat) (g : Nat) (lb : Array Value) (q : Int → Bool) (w : World) (hC : Kd.C (Kd.int .i64) w A l.length l) (hc : l.length ≤ c)
    (eg : ∀ args w, (callFunc g args).run Try.prog w = .ok (.enter g args) w)
    (hh : ∀ (W : World) (i : Nat), Below w.heap.size w W → i < l.length → Calls Try.prog g (#[.int .i64 (rd l (i : Int))] ++ lb) W fun e w' => e = .returned (.bool (q (rd l (i : Int)))) ∧ Below W.heap.size W w') :
    Calls Try.prog 84 #[.slice A l.length c, .func (.func g) #[] lb] w fun e w' => ∃ v : Int, e = .returned (.int .i64 v) ∧ decide (v ≥ 0) = anyI l q ∧ Below w.heap.size w w' := by
  have HC := Aside0.mk hC
  have HH := Aside0.mk hh
  have HLN := Aside0.mk hl
  clear hC hh hl
  go_enter Try.func84, Try.ntmps84
  go_wp2
  go_loopg [8] l.length (fun gg s8 wr => ∃ i : Nat, i ≤ l.length ∧ l.length - i ≤ gg ∧ s8 = .int .i64 i ∧ Aside0 (∀ j : Nat, j < i → q (rd l (j : Int)) = false) ∧ Aside0 (Below w.heap.size w wr))
  case atStart => exact ⟨0, Nat.zero_le _, by omega, rfl, ⟨fun j hj => by omega⟩, ⟨by repeat (first | exact Below.refl _ _ | apply below_drew1)⟩⟩
  case round =>
    obtain ⟨i, hi, hgg, rfl, HF, HB⟩ := hrel
    by_cases hlt : i < l.length
    · have HC1 := Aside0.mk (Kd.C_below HC.out HB.out)
      have p1 : (0 : Int) ≤ (i : Int) := by omega
      have q1 : (i : Int) < (l.length : Int) := by omega
      obtain ⟨ad1, e1, hx1⟩ := Kd.at_int HC1.out (i : Int) p1 q1
      rw [Int.toNat_natCast] at hx1
      have HCall := Aside0.mk (fun W hW => HH.out W i hW hlt)
      cases hv : q (rd l (i : Int)) with
      | true =>
        have HR : decide ((i : Int) ≥ 0) = anyI l q := by unfold anyI; rw [dec_true ⟨i, hlt, hv⟩]; simp
        have HRA := Aside0.mk HR
        rw [hv] at HCall
        clear hv HR
        cases e1
        go_wp2_with (go_at_fn g; refine (HCall.out _ (by repeat (first | exact HB.out | apply below_drew1))).mono ?_; rintro e w1 ⟨rfl, hd⟩; have HB1 := Aside0.mk (below_step (by repeat (first | exact HB.out | apply below_drew1)) hd); clear hd)
        go_ret
        exact ⟨_, rfl, HRA.out, HB1.out⟩
      | false =>
        have HV := Aside0.mk hv
        rw [hv] at HCall
        clear hv
        cases e1
        go_wp2_with (go_at_fn g; refine (HCall.out _ (by repeat (first | exact HB.out | apply below_drew1))).mono ?_; rintro e w1 ⟨rfl, hd⟩; have HB1 := Aside0.mk (below_step (by repeat (first | exact HB.out | apply below_drew1)) hd); clear hd)
        go_roundg (l.length - (i + 1))
        case measure => omega
        case rel => exact ⟨i + 1, by omega, by omega, congrArg (Value.int .i64) (wsucc (by have := HLN.out; omega)), ⟨fun j hj => by
          rcases Nat.lt_or_ge j i with h | h
          · exact HF.out j h
          · rw [show j = i by omega]; exact HV.out⟩, HB1⟩
    · have e : i = l.length := by omega
      subst e
      have HR : decide ((-1 : Int) ≥ 0) = anyI l q := by
        unfold anyI
        rw [dec_false (fun ⟨j, h1, h2⟩ => by rw [HF.out j h1] at h2; cases h2)]; rfl
      have HRA := Aside0.mk HR
      clear HR
      go_wp2
      go_ret
      exact ⟨_, rfl, HRA.out, HB.out⟩
set_option maxHeartbeats 8000000 in
set_option maxRecDepth 100000 in
theorem containsFunc_calls (l : List Int) (hl : l.length ≤ 1000000000000) (A : Option Addr) (c : Nat) (g : Nat) (lb : Array Value) (q : Int → Bool) (w : World) (hC : Kd.C (Kd.int .i64) w A l.length l) (hc : l.length ≤ c)
    (eg : ∀ args w, (callFunc g args).run Try.prog w = .ok (.enter g args) w)
    (hh : ∀ (W : World) (i : Nat), Below w.heap.size w W → i < l.length → Calls Try.prog g (#[.int .i64 (rd l (i : Int))] ++ lb) W fun e w' => e = .returned (.bool (q (rd l (i : Int)))) ∧ Below W.heap.size W w') :
    Calls Try.prog 76 #[.slice A l.length c, .func (.func g) #[] lb] w fun e w' => e = .returned (.bool (anyI l q)) ∧ Below w.heap.size w w' := by
  have HX := Aside0.mk (indexFunc_calls l hl A c g lb q w hC hc eg hh)
  clear hC hh hl
  go_enter Try.func76, Try.ntmps76
  go_wp2_with (go_at_call 84; refine HX.out.mono ?_; rintro e w1 ⟨v, rfl, hv, hd⟩; have HV := Aside0.mk hv; have HB := Aside0.mk hd; clear hv hd)
  go_ret
  exact ⟨by rw [← HV.out]; rfl, HB.out⟩
end Go.Proofs.Ytgheopbdmijlkaa.P

-- Sums of two sets.
namespace Go.Proofs.Ytgheopbdmijlkaa.P
open Go.RowKit Go.Proofs.YtgheopbdmijlkaaW.PrintWords Go.Proofs.YtgheopbdmijlkaaW.PrintLast Go.Proofs.YtgheopbdmijlkaaW.PrintMore
set_option linter.unusedVariables false
set_option linter.unusedSimpArgs false

/-- All sums of one of each. -/
noncomputable def sumq (f g : Nat → Bool) : Nat → Bool := fun n => dec (∃ k, k ≤ n ∧ f k = true ∧ g (n - k) = true)
theorem sumq_iff {f g : Nat → Bool} {n : Nat} : sumq f g n = true ↔ ∃ i j, i + j = n ∧ f i = true ∧ g j = true := by
  unfold sumq
  rw [dec_iff]
  constructor
  · rintro ⟨k, h1, h2, h3⟩; exact ⟨k, n - k, by omega, h2, h3⟩
  · rintro ⟨i, j, h1, h2, h3⟩; exact ⟨i, by omega, h2, by rw [show n - i = j by omega]; exact h3⟩
theorem per_back {f : Nat → Bool} {m p n : Nat} (h : Per f m p) (hn : m + p ≤ n) (hf : f n = true) : f (n - p) = true := by
  have := h (n - p) (by omega)
  rw [show n - p + p = n by omega] at this
  rw [← this]; exact hf
theorem per_fwd {f : Nat → Bool} {m p n : Nat} (h : Per f m p) (hn : m ≤ n) (hf : f n = true) : f (n + p) = true := by rw [h n hn]; exact hf
theorem sumq_per {f g : Nat → Bool} {m m' L : Nat} (hf : Per f m L) (hg : Per g m' L) : Per (sumq f g) (m + m' + L) L := fun n hn => by
  rw [Bool.eq_iff_iff, sumq_iff, sumq_iff]
  constructor
  · rintro ⟨i, j, h1, h2, h3⟩
    by_cases hi : m + L ≤ i
    · exact ⟨i - L, j, by omega, per_back hf hi h2, h3⟩
    · exact ⟨i, j - L, by omega, h2, per_back hg (by omega) h3⟩
  · rintro ⟨i, j, h1, h2, h3⟩
    by_cases hi : m ≤ i
    · exact ⟨i + L, j, by omega, per_fwd hf hi h2, h3⟩
    · exact ⟨i, j + L, by omega, h2, per_fwd hg (by omega) h3⟩
/-- All sums of two different ones. -/
noncomputable def dblq (f : Nat → Bool) : Nat → Bool := fun n => dec (∃ k, k ≤ n ∧ f k = true ∧ f (n - k) = true ∧ k ≠ n - k)
theorem dblq_iff {f : Nat → Bool} {n : Nat} : dblq f n = true ↔ ∃ i j, i + j = n ∧ i < j ∧ f i = true ∧ f j = true := by
  unfold dblq
  rw [dec_iff]
  constructor
  · rintro ⟨k, h1, h2, h3, h4⟩
    rcases Nat.lt_or_ge k (n - k) with h | h
    · exact ⟨k, n - k, by omega, h, h2, h3⟩
    · exact ⟨n - k, k, by omega, by omega, h3, h2⟩
  · rintro ⟨i, j, h1, h2, h3, h4⟩
    exact ⟨i, by omega, h3, by rw [show n - i = j by omega]; exact h4, by omega⟩
theorem dblq_iff' {f : Nat → Bool} {n : Nat} : dblq f n = dec (∃ k, 2 * k < n ∧ f k = true ∧ f (n - k) = true) := by
  rw [Bool.eq_iff_iff, dblq_iff, dec_iff]
  constructor
  · rintro ⟨i, j, h1, h2, h3, h4⟩; exact ⟨i, by omega, h3, by rw [show n - i = j by omega]; exact h4⟩
  · rintro ⟨k, h1, h2, h3⟩; exact ⟨k, n - k, by omega, by omega, h2, h3⟩
theorem dblq_per {f : Nat → Bool} {m L : Nat} (hf : Per f m L) : Per (dblq f) (2 * m + 2 * L) L := fun n hn => by
  rw [Bool.eq_iff_iff, dblq_iff, dblq_iff]
  constructor
  · rintro ⟨i, j, h1, h2, h3, h4⟩
    have h5 := per_back hf (show m + L ≤ j by omega) h4
    rcases Nat.lt_trichotomy i (j - L) with h | h | h
    · exact ⟨i, j - L, by omega, h, h3, h5⟩
    · rcases Nat.eq_zero_or_pos L with hL | hL
      · exact ⟨i, j, by omega, h2, h3, h4⟩
      · exact ⟨i - L, j, by omega, by omega, per_back hf (by omega) h3, h4⟩
    · exact ⟨j - L, i, by omega, h, h5, h3⟩
  · rintro ⟨i, j, h1, h2, h3, h4⟩
    exact ⟨i, j + L, by omega, by omega, h3, per_fwd hf (by omega) h4⟩
theorem sumq_comm (f g : Nat → Bool) : sumq f g = sumq g f := by
  funext n
  rw [Bool.eq_iff_iff, sumq_iff, sumq_iff]
  constructor
  · rintro ⟨i, j, h1, h2, h3⟩; exact ⟨j, i, by omega, h3, h2⟩
  · rintro ⟨i, j, h1, h2, h3⟩; exact ⟨j, i, by omega, h3, h2⟩
theorem sumq_or (f g h : Nat → Bool) : sumq (fun n => f n || g n) h = fun n => sumq f h n || sumq g h n := by
  funext n
  rw [Bool.eq_iff_iff, Bool.or_eq_true, sumq_iff, sumq_iff, sumq_iff]
  constructor
  · rintro ⟨i, j, h1, h2, h3⟩
    rcases Bool.or_eq_true_iff.1 h2 with h2 | h2
    · exact .inl ⟨i, j, h1, h2, h3⟩
    · exact .inr ⟨i, j, h1, h2, h3⟩
  · rintro (⟨i, j, h1, h2, h3⟩ | ⟨i, j, h1, h2, h3⟩)
    · exact ⟨i, j, h1, by rw [h2]; rfl, h3⟩
    · exact ⟨i, j, h1, by rw [h2, Bool.or_true], h3⟩
/-- A tidy small set. -/
def Small (t : List Bool × List Bool) : Prop := t.1.length ≤ 8 ∧ t.2.length ≤ 8
noncomputable def smallB (s : List UInt8) : Bool := (parse s).isSome && dec (Small (cn (setf s)))
theorem smallB_ok {s : List UInt8} (h : smallB s = true) : ∃ a b, parse s = some (a, b) ∧ setf s = hasB a b ∧ (cn (setf s)).1.length ≤ 8 ∧ (cn (setf s)).2.length ≤ 8 ∧ 0 < (cn (setf s)).2.length ∧ Per (setf s) (cn (setf s)).1.length (cn (setf s)).2.length := by
  unfold smallB at h
  rw [Bool.and_eq_true, dec_iff] at h
  obtain ⟨⟨a, b⟩, hp⟩ := Option.isSome_iff_exists.1 h.1
  obtain ⟨p1, p2⟩ := parse_per hp
  have hset := setf_some hp
  have hper := hasB_per (cn (setf s)).1 (cn (setf s)).2
  have hs := cn_spec p1 p2
  rw [← hset] at hs
  rw [hs.2.1] at hper
  exact ⟨a, b, hp, hset, h.2.1, h.2.2, List.length_pos_iff.2 hs.1.1.1, hper⟩
/-- What SumOf answers. -/
noncomputable def smr (s t : List UInt8) : ByteArray × Bool := if smallB s && smallB t then txt (cn (sumq (setf s) (setf t))) else (⟨#[]⟩, false)
/-- What SumDouble answers. -/
noncomputable def dbr (s : List UInt8) : ByteArray × Bool := if smallB s then txt (cn (dblq (setf s))) else (⟨#[]⟩, false)
theorem lcm_le8 {m n : Nat} (h0 : 0 < m) (h0' : 0 < n) (hm : m ≤ 8) (hn : n ≤ 8) : Nat.lcm m n ≤ 56 := by
  have hd := Nat.gcd_dvd_left m n
  rcases Nat.lt_or_ge (m * n) 57 with h | h
  · have : Nat.lcm m n ≤ m * n := by unfold Nat.lcm; exact Nat.div_le_self _ _
    omega
  · have : m = 8 ∧ n = 8 := by
      constructor
      · refine Classical.byContradiction fun hne => ?_
        have : m * n ≤ 7 * 8 := Nat.mul_le_mul (by omega) hn
        omega
      · refine Classical.byContradiction fun hne => ?_
        have : m * n ≤ 8 * 7 := Nat.mul_le_mul hm (by omega)
        omega
    rw [this.1, this.2]; decide
end Go.Proofs.Ytgheopbdmijlkaa.P

-- The star of a set: from some number on it comes again by its least number.
namespace Go.Proofs.Ytgheopbdmijlkaa.P
open Go.RowKit Go.Proofs.YtgheopbdmijlkaaW.PrintWords Go.Proofs.YtgheopbdmijlkaaW.PrintLast Go.Proofs.YtgheopbdmijlkaaW.PrintMore
set_option linter.unusedVariables false
set_option linter.unusedSimpArgs false

/-- A list of numbers above 0 of a set. -/
def Parts (f : Nat → Bool) (l : List Nat) : Prop := ∀ a, a ∈ l → 0 < a ∧ f a = true
def St (f : Nat → Bool) (n : Nat) : Prop := ∃ l, Parts f l ∧ l.sum = n
theorem St.zero (f : Nat → Bool) : St f 0 := ⟨[], fun a h => by simp at h, rfl⟩
theorem St.of {f : Nat → Bool} {a : Nat} (h0 : 0 < a) (h : f a = true) : St f a := ⟨[a], fun b hb => by rw [List.mem_singleton.1 hb]; exact ⟨h0, h⟩, by simp⟩
theorem St.add {f : Nat → Bool} {n m : Nat} (h : St f n) (h' : St f m) : St f (n + m) := by
  obtain ⟨l, h1, rfl⟩ := h
  obtain ⟨r, h2, rfl⟩ := h'
  exact ⟨l ++ r, fun a ha => (List.mem_append.1 ha).elim (h1 a) (h2 a), by simp⟩
theorem St.mul {f : Nat → Bool} {n : Nat} (h : St f n) : ∀ k, St f (k * n)
  | 0 => by rw [Nat.zero_mul]; exact St.zero f
  | k + 1 => by rw [Nat.succ_mul]; exact (St.mul h k).add h
theorem parts_cons {f : Nat → Bool} {a : Nat} {l : List Nat} : Parts f (a :: l) ↔ (0 < a ∧ f a = true) ∧ Parts f l := by
  constructor
  · intro h; exact ⟨h a (by simp), fun b hb => h b (by simp [hb])⟩
  · rintro ⟨h1, h2⟩ b hb
    rcases List.mem_cons.1 hb with rfl | hb
    · exact h1
    · exact h2 b hb
theorem St.step {f : Nat → Bool} {n : Nat} (h : St f n) (hn : 0 < n) : ∃ k, 1 ≤ k ∧ k ≤ n ∧ f k = true ∧ St f (n - k) := by
  obtain ⟨l, h1, rfl⟩ := h
  cases l with
  | nil => simp at hn
  | cons a l =>
    obtain ⟨⟨h2, h3⟩, h4⟩ := parts_cons.1 h1
    rw [List.sum_cons]
    exact ⟨a, h2, by omega, h3, l, h4, by omega⟩
theorem St.iff {f : Nat → Bool} {n : Nat} (hn : 0 < n) : St f n ↔ ∃ k, 1 ≤ k ∧ k ≤ n ∧ f k = true ∧ St f (n - k) := by
  constructor
  · intro h; exact h.step hn
  · rintro ⟨k, h1, h2, h3, h4⟩
    have := (St.of (by omega) h3).add h4
    rwa [show k + (n - k) = n by omega] at this
/-- Whether a number is in the star. -/
noncomputable def stq (f : Nat → Bool) : Nat → Bool := fun n => dec (St f n)
theorem stq_iff {f : Nat → Bool} {n : Nat} : stq f n = true ↔ St f n := dec_iff
theorem pigeon : ∀ (d : Nat) (g : Nat → Nat), (∀ i, i ≤ d → g i < d) → ∃ i j, i < j ∧ j ≤ d ∧ g i = g j := by
  intro d
  induction d with
  | zero => intro g h; have := h 0 (Nat.le_refl _); omega
  | succ d ih =>
    intro g h
    by_cases hx : ∃ i, i ≤ d ∧ g i = g (d + 1)
    · obtain ⟨i, h1, h2⟩ := hx
      exact ⟨i, d + 1, by omega, Nat.le_refl _, h2⟩
    · have hne : ∀ i, i ≤ d → g i ≠ g (d + 1) := fun i hi e => hx ⟨i, hi, e⟩
      obtain ⟨i, j, h1, h2, h3⟩ := ih (fun i => if g i = d then g (d + 1) else g i) (fun i hi => by
        have a := h i (by omega)
        have b := h (d + 1) (Nat.le_refl _)
        have c := hne i hi
        show (if g i = d then g (d + 1) else g i) < d
        split <;> omega)
      refine ⟨i, j, h1, by omega, ?_⟩
      have a := hne i (by omega)
      have b := hne j h2
      by_cases c1 : g i = d
      · by_cases c2 : g j = d
        · rw [c1, c2]
        · simp only [if_pos c1, if_neg c2] at h3; omega
      · by_cases c2 : g j = d
        · simp only [if_neg c1, if_pos c2] at h3; omega
        · simp only [if_neg c1, if_neg c2] at h3; exact h3
theorem sum_take_drop (l : List Nat) (i : Nat) : (l.take i).sum + (l.drop i).sum = l.sum := by
  rw [← List.sum_append, List.take_append_drop]
theorem sum_pos {f : Nat → Bool} {l : List Nat} (h : Parts f l) (hn : l ≠ []) : 0 < l.sum := by
  cases l with
  | nil => exact absurd rfl hn
  | cons a l => have := (parts_cons.1 h).1.1; rw [List.sum_cons]; omega
/-- Of a long list a piece is a multiple of q. -/
theorem parts_cut {f : Nat → Bool} {q : Nat} (hq : 0 < q) {l : List Nat} (h : Parts f l) (hl : q + 1 ≤ l.length) : ∃ e, 0 < e ∧ q * e < l.sum ∧ St f (l.sum - q * e) := by
  obtain ⟨i, j, h1, h2, h3⟩ := pigeon q (fun i => (l.take i).sum % q) (fun i _ => Nat.mod_lt _ hq)
  have h3 : (l.take i).sum % q = (l.take j).sum % q := h3
  have hij : (l.take j).sum = (l.take i).sum + ((l.drop i).take (j - i)).sum := by
    rw [← List.sum_append]
    congr 1
    have e := List.take_append_drop i (l.take j)
    rw [List.take_take, Nat.min_eq_left (by omega), List.drop_take] at e
    exact e.symm
  have hc : ((l.drop i).take (j - i)).sum % q = 0 := by
    rw [hij, Nat.add_mod] at h3
    have a := Nat.mod_lt ((l.take i).sum) hq
    have b := Nat.mod_lt (((l.drop i).take (j - i)).sum) hq
    rcases Nat.lt_or_ge ((l.take i).sum % q + ((l.drop i).take (j - i)).sum % q) q with c | c
    · rw [Nat.mod_eq_of_lt c] at h3; omega
    · have : ((l.take i).sum % q + ((l.drop i).take (j - i)).sum % q) % q = (l.take i).sum % q + ((l.drop i).take (j - i)).sum % q - q := by
        rw [Nat.mod_eq_sub_mod c, Nat.mod_eq_of_lt (by omega)]
      rw [this] at h3; omega
  have hsub : ∀ {r : List Nat}, (∀ a, a ∈ r → a ∈ l) → Parts f r := fun hr a ha => h a (hr a ha)
  have p1 : Parts f (l.take i) := hsub fun a ha => List.mem_of_mem_take ha
  have p2 : Parts f ((l.drop i).take (j - i)) := hsub fun a ha => List.mem_of_mem_drop (List.mem_of_mem_take ha)
  have p3 : Parts f (l.drop j) := hsub fun a ha => List.mem_of_mem_drop ha
  have hpos : 0 < ((l.drop i).take (j - i)).sum := sum_pos p2 (by
    intro e
    have := congrArg List.length e
    rw [List.length_take, List.length_drop, List.length_nil] at this
    omega)
  have hpos3 : 0 < (l.drop j).sum := sum_pos p3 (by
    intro e
    have := congrArg List.length e
    rw [List.length_drop, List.length_nil] at this
    omega)
  have htot := sum_take_drop l j
  obtain ⟨e, he⟩ := Nat.dvd_of_mod_eq_zero hc
  have hst : St f ((l.take i).sum + (l.drop j).sum) := St.add ⟨_, p1, rfl⟩ ⟨_, p3, rfl⟩
  refine ⟨e, ?_, by omega, ?_⟩
  · rcases Nat.eq_zero_or_pos e with rfl | x
    · rw [Nat.mul_zero] at he; omega
    · exact x
  · rw [show l.sum - q * e = (l.take i).sum + (l.drop j).sum by omega]
    exact hst
theorem sum_bound {l : List Nat} {G : Nat} (h : ∀ a, a ∈ l → a ≤ G) : l.sum ≤ l.length * G := by
  induction l with
  | nil => simp
  | cons a l ih =>
    have := ih fun b hb => h b (by simp [hb])
    have := h a (by simp)
    rw [List.sum_cons, List.length_cons, Nat.succ_mul]; omega
/-- If what is above 0 goes on by q, and a great part is another one and q times some number: behind some number one may take q away. -/
theorem St.back {f : Nat → Bool} {q G : Nat} (hq : 0 < q) (h1 : ∀ n, 0 < n → St f n → St f (n + q)) (h2 : ∀ a, G < a → f a = true → ∃ a' e, 0 < a' ∧ 0 < e ∧ a' + q * e = a ∧ f a' = true) {n : Nat} (hn : q * G < n) (h : St f n) : St f (n - q) := by
  have up : ∀ e m, 0 < m → St f m → St f (m + q * e) := by
    intro e
    induction e with
    | zero => intro m _ hs; rw [Nat.mul_zero, Nat.add_zero]; exact hs
    | succ e ih =>
      intro m hm hs
      have := h1 _ (by omega) (ih m hm hs)
      rwa [Nat.add_assoc, ← Nat.mul_succ] at this
  obtain ⟨l, hl, rfl⟩ := h
  by_cases hlen : q + 1 ≤ l.length
  · obtain ⟨e, he, hlt, hs⟩ := parts_cut hq hl hlen
    have := up (e - 1) _ (by omega) hs
    have he2 : q * e = q * (e - 1) + q := by rw [← Nat.mul_succ]; congr 1; omega
    rwa [show l.sum - q * e + q * (e - 1) = l.sum - q by omega] at this
  · by_cases hall : ∀ a, a ∈ l → a ≤ G
    · have b1 := sum_bound hall
      have b2 : l.length * G ≤ q * G := Nat.mul_le_mul_right G (by omega)
      omega
    · obtain ⟨a, ha, hG⟩ : ∃ a, a ∈ l ∧ G < a := by
        refine Classical.byContradiction fun hno => hall fun a ha => ?_
        rcases Nat.lt_or_ge G a with x | x
        · exact absurd ⟨a, ha, x⟩ hno
        · exact x
      obtain ⟨a', e, h3, h4, h5, h6⟩ := h2 a hG (hl a ha).2
      obtain ⟨x, y, rfl⟩ := List.append_of_mem ha
      have hx : Parts f (x ++ a' :: y) := by
        intro b hb
        rcases List.mem_append.1 hb with c | c
        · exact hl b (List.mem_append.2 (.inl c))
        · rcases List.mem_cons.1 c with rfl | c
          · exact ⟨h3, h6⟩
          · exact hl b (List.mem_append.2 (.inr (List.mem_cons.2 (.inr c))))
      have hs : St f (x ++ a' :: y).sum := ⟨_, hx, rfl⟩
      have e1 : (x ++ a :: y).sum = x.sum + (a + y.sum) := by rw [List.sum_append, List.sum_cons]
      have e2 : (x ++ a' :: y).sum = x.sum + (a' + y.sum) := by rw [List.sum_append, List.sum_cons]
      rw [e2] at hs
      have := up (e - 1) _ (by omega) hs
      have he2 : q * e = q * (e - 1) + q := by rw [← Nat.mul_succ]; congr 1; omega
      rw [e1]
      rwa [show x.sum + (a' + y.sum) + q * (e - 1) = x.sum + (a + y.sum) - q by omega] at this
theorem per_sub {f : Nat → Bool} {m p : Nat} (h : Per f m p) : ∀ k a, m + k * p ≤ a → f a = true → f (a - k * p) = true
  | 0, a, _, hf => by rw [Nat.zero_mul, Nat.sub_zero]; exact hf
  | k + 1, a, ha, hf => by
    rw [Nat.succ_mul] at ha ⊢
    have := per_sub h k a (by omega) hf
    have := per_back h (by omega) this
    rwa [Nat.sub_sub] at this
/-- THE STAR COMES AGAIN by the least number of a small set. -/
theorem stq_per {f : Nat → Bool} {m p d : Nat} (hm : m ≤ 8) (hp : 0 < p) (hp8 : p ≤ 8) (hper : Per f m p) (hd : 0 < d) (hfd : f d = true) (hmin : ∀ k, 0 < k → k < d → f k = false) : Per (stq f) 584 d := by
  have hSd : St f d := St.of hd hfd
  by_cases h8 : d ≤ 8
  · have hpd : p * d ≤ 8 * 8 := Nat.mul_le_mul hp8 h8
    have hq := fun n (hn : 584 < n) (h : St f n) => St.back (G := m + p * d) hd (fun n _ h => h.add hSd) (fun a ha hf => by
      have hc : d * p = p * d := Nat.mul_comm _ _
      have := per_sub hper d a (by omega) hf
      exact ⟨a - d * p, p, by omega, hp, by omega, this⟩) (n := n) (by
        have : d * (m + p * d) ≤ 8 * (8 + 64) := Nat.mul_le_mul h8 (by omega)
        omega) h
    intro n hn
    rw [Bool.eq_iff_iff, stq_iff, stq_iff]
    constructor
    · intro h
      have := hq _ (by omega) h
      rwa [Nat.add_sub_cancel] at this
    · intro h; exact h.add hSd
  · have hge : ∀ a, 0 < a → f a = true → d ≤ a := fun a h0 ha => by
      rcases Nat.lt_or_ge a d with x | x
      · rw [hmin a h0 x] at ha; cases ha
      · exact x
    have hup : ∀ n, 0 < n → St f n → St f (n + p) := by
      intro n hn h
      obtain ⟨k, h1, h2, h3, h4⟩ := h.step hn
      have h5 := per_fwd hper (show m ≤ k by have := hge k (by omega) h3; omega) h3
      have := (St.of (show 0 < k + p by omega) h5).add h4
      rwa [show k + p + (n - k) = n + p by omega] at this
    have hq := fun n (hn : 128 < n) (h : St f n) => St.back (G := m + p) hp hup (fun a ha hf => by
      have h1 := hge a (by omega) hf
      exact ⟨a - p, 1, by omega, by omega, by rw [Nat.mul_one]; omega, per_back hper (by omega) hf⟩) (n := n) (by
        have : p * (m + p) ≤ 8 * 16 := Nat.mul_le_mul hp8 (by omega)
        omega) h
    have hper2 : Per (stq f) 584 p := by
      intro n hn
      rw [Bool.eq_iff_iff, stq_iff, stq_iff]
      constructor
      · intro h
        have := hq _ (by omega) h
        rwa [Nat.add_sub_cancel] at this
      · intro h; exact hup n (by omega) h
    intro n hn
    rw [Bool.eq_iff_iff]
    constructor
    · intro h
      rw [stq_iff] at h
      have h2 := (h.add (hSd.mul (p - 1)))
      have h3 := hper2.mul d n hn
      rw [← stq_iff] at h2
      have e : n + d + (p - 1) * d = n + d * p := by
        have : p * d = (p - 1) * d + d := by rw [← Nat.succ_mul]; congr 1; omega
        rw [Nat.mul_comm d p]; omega
      rw [e, h3] at h2; exact h2
    · intro h
      rw [stq_iff] at h ⊢
      exact h.add hSd
theorem stq_none {f : Nat → Bool} (h : ∀ k, 0 < k → f k = false) : stq f = fun n => decide (n = 0) := by
  funext n
  rcases Nat.eq_zero_or_pos n with rfl | hn
  · rw [stq_iff.2 (St.zero f)]; rfl
  · rw [decide_eq_false (by omega)]
    cases hx : stq f n with
    | false => rfl
    | true =>
      obtain ⟨k, h1, _, h3, _⟩ := (stq_iff.1 hx).step hn
      rw [h k (by omega)] at h3; cases h3
theorem stq_idem (f : Nat → Bool) : stq (stq f) = stq f := by
  funext n
  rw [Bool.eq_iff_iff, stq_iff, stq_iff]
  constructor
  · rintro ⟨l, h1, rfl⟩
    induction l with
    | nil => exact St.zero f
    | cons a l ih =>
      obtain ⟨⟨_, h2⟩, h3⟩ := parts_cons.1 h1
      rw [List.sum_cons]
      exact (stq_iff.1 h2).add (ih h3)
  · intro h
    rcases Nat.eq_zero_or_pos n with rfl | hn
    · exact St.zero _
    · exact St.of hn (stq_iff.2 h)
theorem stq_or (f g : Nat → Bool) : stq (fun n => f n || g n) = sumq (stq f) (stq g) := by
  funext n
  rw [Bool.eq_iff_iff, stq_iff, sumq_iff]
  constructor
  · rintro ⟨l, h1, rfl⟩
    induction l with
    | nil => exact ⟨0, 0, rfl, stq_iff.2 (St.zero f), stq_iff.2 (St.zero g)⟩
    | cons a l ih =>
      obtain ⟨⟨h0, h2⟩, h3⟩ := parts_cons.1 h1
      obtain ⟨i, j, e, hi, hj⟩ := ih h3
      rw [List.sum_cons]
      rcases Bool.or_eq_true_iff.1 h2 with h2 | h2
      · exact ⟨a + i, j, by omega, stq_iff.2 ((St.of h0 h2).add (stq_iff.1 hi)), hj⟩
      · exact ⟨i, a + j, by omega, hi, stq_iff.2 ((St.of h0 h2).add (stq_iff.1 hj))⟩
  · rintro ⟨i, j, rfl, hi, hj⟩
    have mono : ∀ (u v : Nat → Bool) m, (∀ k, u k = true → v k = true) → St u m → St v m := fun u v m h hs => by
      obtain ⟨l, h1, rfl⟩ := hs
      exact ⟨l, fun a ha => ⟨(h1 a ha).1, h a (h1 a ha).2⟩, rfl⟩
    exact (mono f _ i (fun k h => by rw [h]; rfl) (stq_iff.1 hi)).add (mono g _ j (fun k h => by rw [h, Bool.or_true]) (stq_iff.1 hj))
end Go.Proofs.Ytgheopbdmijlkaa.P
