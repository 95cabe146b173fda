/- What these laws reach, joined by a program of this session: contracts (written by that program over the kit's print, or by hand) and plain lemmas. -/
import Derived.Lib.Walk
import Derived.Laws.AppendOwn
import Derived.Deep.RegionHeld3
import Derived.Deep.AppendLies
import Derived.BigCall
import Derived.Lib.SliceRun
import Derived.Test.YtneadgionjlicaaK1
import Derived.Test.YtneadgionjlicaaK4
open Go.Proofs.YtneadgionjlicaaW.PrintWords renaming below_alloc → yA, pw_below_drewN → yB, below_drew1 → yC, below_set → yD, blk_drewN → yE, blk_drew → yF, blk_alloc → yG, below_step → yP, below_size → yQ
open Go.Proofs.YtneadgionjlicaaW.PrintWords.Kd renaming R_alloc → yH, R_drewN → yI, R_drew → yJ
open List renaming setIfInBounds_toArray → yK, set_cons_zero → yL, set_cons_succ → yM
namespace Go.Proofs.Ytneadgionjlicaa.P
open Go.RowKit Go.Proofs.YtneadgionjlicaaW.PrintWords Go.Proofs.YtneadgionjlicaaW.PrintLast Go.Proofs.YtneadgionjlicaaW.PrintMore
attribute [local go_sem] max2_int min2_int max_two min_two max_three min_three max_four min_four   -- for this text's walks alone
set_option linter.unusedVariables false
set_option linter.unusedSimpArgs false

/-! ### impl_set_text: function 71 -/
def impl_set_text.j0:Nat→Bool→List Bool→List Bool→Option (ByteArray × Bool)
 | 0,_,_,_=>none
 | k+1,x13,x211000,x211001=>if x13=true then (some ((⟨#[]⟩:ByteArray),false)) else ((impl_told.f x211000).bind fun t211=>(if t211.size+1≤9223372036854775807 then ((impl_told.f x211001).bind fun t212=>(if t211.size+1+t212.size≤9223372036854775807 then (if t211.size+1+t212.size+1≤9223372036854775807 then (some (((t211++(⟨#[40]⟩:ByteArray))++t212)++(⟨#[41]⟩:ByteArray),true)) else (none)) else (none))) else (none)))
def impl_set_text.f (k:Nat) (l0_0:List Bool) (l0_1:List Bool):Option (ByteArray × Bool):=if (l0_0.length:Int) > 60 then (impl_set_text.j0 k true l0_0 l0_1) else (impl_set_text.j0 k (decide ((l0_1.length:Int) > 60)) l0_0 l0_1)
theorem impl_set_text.mono_l:∀ k,(∀ y0 y1 y2,LeO (impl_set_text.j0 k y0 y1 y2) (impl_set_text.j0 (k+1) y0 y1 y2))
 | 0=>fun _ _ _ r h=>by simp [impl_set_text.j0] at h
 | k+1=>by
  have ih0:=impl_set_text.mono_l k
  ·intro y0 y1 y2
   unfold impl_set_text.j0
   repeat' first
   | (with_reducible exact ih0 _ _ _)
   | (with_reducible exact LeO.refl _)
   | (with_reducible exact LeO.none _)
   | (with_reducible refine LeO.ite ?_ ?_)
   | (with_reducible refine LeO.bind ?_ (fun _=>?_))
   | exact ih0 _ _ _
   | exact LeO.none _
   | refine LeO.ite ?_ ?_
   | refine LeO.bind ?_ (fun _=>?_)
theorem impl_set_text.mono:∀ a0 a1 k,LeO (impl_set_text.f k a0 a1) (impl_set_text.f (k+1) a0 a1):=by
 intro a0 a1 k
 have ih0:=impl_set_text.mono_l k
 unfold impl_set_text.f
 repeat' first
   | (with_reducible exact ih0 _ _ _)
   | (with_reducible exact LeO.refl _)
   | (with_reducible exact LeO.none _)
   | (with_reducible refine LeO.ite ?_ ?_)
   | (with_reducible refine LeO.bind ?_ (fun _=>?_))
   | exact ih0 _ _ _
   | exact LeO.none _
   | refine LeO.ite ?_ ?_
   | refine LeO.bind ?_ (fun _=>?_)
def impl_set_text.T3:Bool × List (List Nat × List Nat):=(true,[([],[]),([0],[0]),([1],[1]),([2],[2]),([],[]),([4],[4]),([5,2],[5]),([3,6],[3,6]),([7],[7]),([8,6,0,1,2,3,4,5,6,7,8],[8]),([9,0,1,2,3,4,5,6,7,8,9],[])])
def impl_set_text.B3:List Nat:=[0,1,3,7,0,16,55,127,255,511,1023]
theorem impl_set_text.tab3:rtab .any (opsOf Try.f71 3)=impl_set_text.T3:=by kernel_rfl
theorem impl_set_text.bits3:waitsOk impl_set_text.T3.2 impl_set_text.B3=true:=by kernel_rfl
set_option maxHeartbeats 8000000 in
set_option maxRecDepth 100000 in
theorem impl_set_text.calls (k:Nat) (A0_0:Option Addr) (c0_0:Nat) (l0_0:List Bool) (A0_1:Option Addr) (c0_1:Nat) (l0_1:List Bool) (r1:ByteArray) (r2:Bool) (w:World) (hr0_0:Kd.C Kd.bool w A0_0 l0_0.length l0_0) (hc0_0:l0_0.length≤c0_0) (hr0_1:Kd.C Kd.bool w A0_1 l0_1.length l0_1) (hc0_1:l0_1.length≤c0_1) (h:impl_set_text.f k l0_0 l0_1=some (r1,r2)) :
  Calls Try.prog 71 #[.agg #[.slice A0_0 l0_0.length c0_0,.slice A0_1 l0_1.length c0_1]] w fun e w'=>e=.returned (.tuple #[.string r1,.bool r2])∧Below w.heap.size w w':=by
 have hu48:=Try.underlying48
 have HR0_0:=Aside0.mk hr0_0
 have HC0_0:=Aside0.mk hc0_0
 clear hr0_0 hc0_0
 have HR0_1:=Aside0.mk hr0_1
 have HC0_1:=Aside0.mk hc0_1
 clear hr0_1 hc0_1
 have HB:=Aside0.mk (Below.refl w.heap.size w)
 have H:(if (l0_0.length:Int) > 60 then (impl_set_text.j0 k true l0_0 l0_1) else (impl_set_text.j0 k (decide ((l0_1.length:Int) > 60)) l0_0 l0_1))=some (r1,r2):=h
 clear h
 have HC2:=Aside0.mk H
 clear H
 go_enter Try.func71,Try.ntmps71
 go_upto_region 1 with (first|((with_reducible refine gate_dst (N:=1) rfl ?_);(try (refine gate_guard (by rfl) ?_;dsimp only));refine box_event ?hg (N:=1) ?hd (cs:=#[.slice A0_0 l0_0.length c0_0,.slice A0_1 l0_1.length c0_1]) (t:=48) ?hr ?_;(case hd=>rfl);(case hg=>rfl);(case hr=>first|(go_simp;done)|(go_simp;rfl));intro gb210 hg w3 hbox hb;have n0_:=Aside0.mk (yP (by repeat (first|(with_reducible first|exact HB.out|apply yA|apply yB|apply yC)|exact HB.out)) hb);have n1_:=Aside0.mk (hbox);have n2_:=Aside0.mk ((by rw [hg];exact (yQ (by repeat (first|(with_reducible first|exact HB.out|apply yA|apply yB|apply yC)|exact HB.out))):w.heap.size≤gb210));have n3_:=Aside0.mk ((by rw [hg];exact (yQ (by repeat (first|(with_reducible first|exact HB.out|apply yA|apply yB|apply yC)|exact HB.out))):w.heap.size≤gb210));clear HB;have HB:=n0_;have BK210:=n1_;have GW210:=n2_;have GE210:=n3_;clear n0_ n1_ n2_ n3_;clear hb hbox hg))
 (try simp only [Act.put,yK,yL,yM])
 go_cut [13] (fun v13 wc=>∃ (kq:Nat) (x13_1:Bool),v13=.bool x13_1∧Aside0 (impl_set_text.j0 kq x13_1 l0_0 l0_1=some (r1,r2))∧Aside0 (kq≤k)∧Aside0 (wc.heap[gb210]?=some (.cells #[(.slice A0_0 l0_0.length c0_0),(.slice A0_1 l0_1.length c0_1)] 48 (0,0)))∧Aside0 (Below w.heap.size w wc))
 case first =>
  have H:=HC2.out
  clear HC2
  by_cases c4:(l0_0.length:Int) > 60
  ·rw [if_pos c4] at H
   have c4b0:decide (60<(l0_0.length:Int))=true:=decide_eq_true c4
   have c4b1:decide (60<l0_0.length)=true:=decide_eq_true (by omega)
   clear c4
   (first|rw [c4b0]|(simp only [i64_w,i32_w];rw [c4b0])|skip)
   have H':=Aside0.mk H
   clear H
   have hcz5_0:w3.cell? ⟨gb210,0,none⟩=some (.slice A0_0 l0_0.length c0_0):=(blk_cell BK210.out 0).trans rfl
   have hcz5_1:w3.cell? ⟨gb210,1,none⟩=some (.slice A0_1 l0_1.length c0_1):=(blk_cell BK210.out 1).trans rfl
   have hfz5_0:=blk_frozen BK210.out 0
   have hfz5_1:=blk_frozen BK210.out 1
   go_wp2
   go_meet
   case rel=>exact ⟨_,(true),(by first|rfl|(simp;done)|(simp [*];done)|(simp [Int.tmod_eq_emod_of_nonneg];done)),H',⟨by first|omega|exact Nat.le_refl _⟩,⟨by (with_reducible repeat (first|refine yE ?_ _|refine yF ?_|refine yG ?_ _));exact BK210.out⟩,⟨by repeat (first|(with_reducible first|exact HB.out|apply yA|apply yB|apply yC|refine yD ?_ GE210.out)|exact HB.out)⟩⟩
  ·rw [if_neg c4] at H
   have c4b0:decide (60<(l0_0.length:Int))=false:=decide_eq_false c4
   have c4b1:decide (60<l0_0.length)=false:=decide_eq_false (by omega)
   clear c4
   (first|rw [c4b0]|(simp only [i64_w,i32_w];rw [c4b0])|skip)
   have H':=Aside0.mk H
   clear H
   have hcz6_0:w3.cell? ⟨gb210,0,none⟩=some (.slice A0_0 l0_0.length c0_0):=(blk_cell BK210.out 0).trans rfl
   have hcz6_1:w3.cell? ⟨gb210,1,none⟩=some (.slice A0_1 l0_1.length c0_1):=(blk_cell BK210.out 1).trans rfl
   have hfz6_0:=blk_frozen BK210.out 0
   have hfz6_1:=blk_frozen BK210.out 1
   go_wp2
   go_meet
   case rel=>exact ⟨_,(decide ((l0_1.length:Int) > 60)),(by first|rfl|(simp;done)|(simp [*];done)|(simp [Int.tmod_eq_emod_of_nonneg];done)),H',⟨by first|omega|exact Nat.le_refl _⟩,⟨by (with_reducible repeat (first|refine yE ?_ _|refine yF ?_|refine yG ?_ _));exact BK210.out⟩,⟨by repeat (first|(with_reducible first|exact HB.out|apply yA|apply yB|apply yC|refine yD ?_ GE210.out)|exact HB.out)⟩⟩
 case rest =>
  clear HC2
  try clear p2
  try clear c4
  try clear c4b0
  try clear c4b1
  try clear hcz5_0
  try clear hcz5_1
  try clear hcz6_0
  try clear hcz6_1
  try clear hfz5_0
  try clear hfz5_1
  try clear hfz6_0
  try clear hfz6_1
  obtain ⟨kq,x13_1,rfl,HA,HJ1,BK210,HB⟩:=hcut
  cases kq with
  | zero=>exact absurd HA.out (by simp [impl_set_text.j0])
  | succ kj1 =>
   have H:=HA.out
   clear HA
   simp only [impl_set_text.j0] at H
   by_cases c7:x13_1=true
   ·subst c7
    have H1:(some ((⟨#[]⟩:ByteArray),false))=some (r1,r2):=by rw [if_pos rfl] at H;exact H
    clear H
    have H:=H1
    clear H1
    simp only [Option.some.injEq,Prod.mk.injEq] at H
    obtain ⟨rfl,rfl⟩:=H
    go_wp2
    go_ret2
    exact ⟨by first|rfl|(simp [errW_none,errW_some]<;>rfl)|(simp [*,errW_none,errW_some]<;>rfl)|(simp [errW_none,errW_some];exact ⟨rfl,rfl⟩),by repeat (first|(with_reducible first|exact HB.out|apply yA|apply yB|apply yC|refine yD ?_ GE210.out)|exact HB.out)⟩
   ·replace c7:=Bool.eq_false_iff.mpr c7
    subst c7
    have H1:((impl_told.f l0_0).bind fun t211=>(if t211.size+1≤9223372036854775807 then ((impl_told.f l0_1).bind fun t212=>(if t211.size+1+t212.size≤9223372036854775807 then (if t211.size+1+t212.size+1≤9223372036854775807 then (some (((t211++(⟨#[40]⟩:ByteArray))++t212)++(⟨#[41]⟩:ByteArray),true)) else (none)) else (none))) else (none)))=some (r1,r2):=by rw [if_neg (show ¬ (false=true) by decide)] at H;exact H
    clear H
    have H:=H1
    clear H1
    replace H:=Option.bind_eq_some_iff.mp H
    obtain ⟨t211,A80,H⟩:=H
    replace H:(if t211.size+1≤9223372036854775807 then ((impl_told.f l0_1).bind fun t212=>(if t211.size+1+t212.size≤9223372036854775807 then (if t211.size+1+t212.size+1≤9223372036854775807 then (some (((t211++(⟨#[40]⟩:ByteArray))++t212)++(⟨#[41]⟩:ByteArray),true)) else (none)) else (none))) else (none))=some (r1,r2):=H
    have A8:=Aside0.mk A80
    clear A80
    by_cases c9:t211.size+1≤9223372036854775807
    ·rw [if_pos c9] at H
     have c9b0:=eq_true c9
     have c9b1:decide (t211.size+1≤9223372036854775807)=true:=decide_eq_true c9
     try have c9b2:(9223372036854775807<t211.size+1)=False:=eq_false (Nat.not_lt.2 c9)
     replace H:=Option.bind_eq_some_iff.mp H
     obtain ⟨t212,A100,H⟩:=H
     replace H:(if t211.size+1+t212.size≤9223372036854775807 then (if t211.size+1+t212.size+1≤9223372036854775807 then (some (((t211++(⟨#[40]⟩:ByteArray))++t212)++(⟨#[41]⟩:ByteArray),true)) else (none)) else (none))=some (r1,r2):=H
     have A10:=Aside0.mk A100
     clear A100
     by_cases c11:t211.size+1+t212.size≤9223372036854775807
     ·rw [if_pos c11] at H
      have c11b0:=eq_true c11
      have c11b1:decide (t211.size+1+t212.size≤9223372036854775807)=true:=decide_eq_true c11
      try have c11b2:(9223372036854775807<t211.size+1+t212.size)=False:=eq_false (Nat.not_lt.2 c11)
      by_cases c12:t211.size+1+t212.size+1≤9223372036854775807
      ·rw [if_pos c12] at H
       have c12b0:=eq_true c12
       have c12b1:decide (t211.size+1+t212.size+1≤9223372036854775807)=true:=decide_eq_true c12
       try have c12b2:(9223372036854775807<t211.size+1+t212.size+1)=False:=eq_false (Nat.not_lt.2 c12)
       simp only [Option.some.injEq,Prod.mk.injEq] at H
       obtain ⟨rfl,rfl⟩:=H
       try go_wp2
       have n0_:=Aside0.mk (yF BK210.out)
       have n1_:=Aside0.mk (yC HB.out)
       clear BK210
       clear HB
       have BK210:=n0_
       have HB:=n1_
       clear n0_ n1_
       refine start_ (n:=11) (S:=fun w'=>w'.cell? ⟨gb210,0,none⟩=some (.slice A0_0 l0_0.length c0_0)∧w'.cell? ⟨gb210,1,none⟩=some (.slice A0_1 l0_1.length c0_1)) (ds:=[]) #[false,false,false,false,false,false,false,false,false,false,false] (by kernel_rfl) rfl rfl ⟨(blk_cell BK210.out 0).trans rfl,(blk_cell BK210.out 1).trans rfl⟩ (fun hHeld=>?_);refine with_tabW impl_set_text.tab3 impl_set_text.bits3 (fun HT_ HW_=>?_)
       generalize wc.drew=w13 at BK210 HB hHeld ⊢
       refine pure_ (i:=0) (N:=some 14) (v:=?_) (a':=?_) #[true,false,false,false,false,false,false,false,false,false,false] rfl rfl (any_of HT_.out (by kernel_rfl)) (fun _ _ _ h=>h) (Or.inl ⟨by rfl,?_⟩) ?_ ?_
       rotate_left
       ·intro w'
        go_simp
        with_reducible rfl
       rotate_left
       ·simp only [Act.put,yK,yL,yM,i64_w,i32_w]
        rfl
       refine pure_ (i:=4) (N:=some 18) (v:=?_) (a':=?_) #[true,false,false,false,true,false,false,false,false,false,false] rfl rfl (any_of HT_.out (by kernel_rfl)) (fun _ _ _ h=>h) (Or.inl ⟨by rfl,?_⟩) ?_ ?_
       rotate_left
       ·intro w'
        go_simp
        with_reducible rfl
       rotate_left
       ·simp only [Act.put,yK,yL,yM,i64_w,i32_w]
        rfl
       refine take_ (i:=1) (N:=some 15) (v:=?_) (a':=?_) #[true,true,false,false,true,false,false,false,false,false,false] rfl rfl (take_ofW HT_.out HW_.out (by kernel_rfl)) (fun _ _ _ h=>h) (Or.inl ⟨by rfl,?_⟩) hHeld ?_ ?_
       rotate_left
       ·rintro w' ⟨s0,s1⟩
        go_simp
        with_reducible rfl
       rotate_left
       ·simp only [Act.put,yK,yL,yM,i64_w,i32_w]
        rfl
       refine take_ (i:=5) (N:=some 19) (v:=?_) (a':=?_) #[true,true,false,false,true,true,false,false,false,false,false] rfl rfl (take_ofW HT_.out HW_.out (by kernel_rfl)) (fun _ _ _ h=>h) (Or.inl ⟨by rfl,?_⟩) hHeld ?_ ?_
       rotate_left
       ·rintro w' ⟨s0,s1⟩
        go_simp
        with_reducible rfl
       rotate_left
       ·simp only [Act.put,yK,yL,yM,i64_w,i32_w]
        rfl
       refine one_ (i:=2) (N:=some 16) #[true,true,true,false,true,true,false,false,false,false,false] rfl rfl (one_of HT_.out (by kernel_rfl)) (by decide) (fun K hK=>?_)
       refine goes_ Try.func85 (by kernel_rfl) rfl #[.slice A0_0 l0_0.length c0_0] (by rfl) rfl rfl (by (try simp only [List.map_toArray,List.map_cons,List.map_nil]);first|done|rfl|(simp only [List.length_drop,List.length_take];rfl)) ?_
       with_reducible refine (impl_told.calls _ _ l0_0 t211 _ ?side1 ?side2 A8.out).mono ?_
       (case side1=>repeat (first|exact (Kd.C_below HR0_0.out HB.out)|(with_reducible refine Kd.C_alloc ?_ _)|(with_reducible refine Kd.C_drewN ?_ _)|(with_reducible refine Kd.C_drew ?_)))
       (case side2=>exact HC0_0.out)
       rintro e w14 ⟨rfl,hb⟩
       refine ⟨_,rfl,?_⟩
       have n0_:=Aside0.mk (blk_below (g:=gb210) (o:=.cells #[.slice A0_0 l0_0.length c0_0,.slice A0_1 l0_1.length c0_1] 48 (0,0)) (by (with_reducible repeat (first|refine yE ?_ _|refine yF ?_|refine yG ?_ _));exact BK210.out) hb)
       have n1_:=Aside0.mk (yP (by repeat (first|(with_reducible first|exact HB.out|apply yA|apply yB|apply yC|refine yD ?_ GE210.out)|exact HB.out)) hb)
       clear BK210
       clear HB
       have BK210:=n0_
       have HB:=n1_
       clear n0_ n1_
       (try clear hb)
       (try clear hb2)
       (try clear hk)
       (try clear hi)
       refine hK.out _ _ ⟨(blk_cell BK210.out 0).trans rfl,(blk_cell BK210.out 1).trans rfl⟩ (fun hHeld=>?_)
       clear hK K
       refine norm_ (a':=?_) ?_ ?_
       rotate_left
       ·show Act.put _ (some 16) _=_
        simp only [Act.put,yK,yL,yM,i64_w,i32_w]
        rfl
       refine pure_ (i:=3) (N:=some 17) (v:=?_) (a':=?_) #[true,true,true,true,true,true,false,false,false,false,false] rfl rfl (any_of HT_.out (by kernel_rfl)) (fun _ _ _ h=>h) (Or.inl ⟨by rfl,?_⟩) ?_ ?_
       rotate_left
       ·intro w'
        go_simp
        with_reducible rfl
       rotate_left
       ·simp only [Act.put,yK,yL,yM,i64_w,i32_w]
        rfl
       refine one_ (i:=6) (N:=some 20) #[true,true,true,true,true,true,true,false,false,false,false] rfl rfl (one_of HT_.out (by kernel_rfl)) (by decide) (fun K hK=>?_)
       refine goes_ Try.func85 (by kernel_rfl) rfl #[.slice A0_1 l0_1.length c0_1] (by rfl) rfl rfl (by (try simp only [List.map_toArray,List.map_cons,List.map_nil]);first|done|rfl|(simp only [List.length_drop,List.length_take];rfl)) ?_
       with_reducible refine (impl_told.calls _ _ l0_1 t212 _ ?side1 ?side2 A10.out).mono ?_
       (case side1=>repeat (first|exact (Kd.C_below HR0_1.out HB.out)|(with_reducible refine Kd.C_alloc ?_ _)|(with_reducible refine Kd.C_drewN ?_ _)|(with_reducible refine Kd.C_drew ?_)))
       (case side2=>exact HC0_1.out)
       rintro e w15 ⟨rfl,hb⟩
       refine ⟨_,rfl,?_⟩
       have n0_:=Aside0.mk (blk_below (g:=gb210) (o:=.cells #[.slice A0_0 l0_0.length c0_0,.slice A0_1 l0_1.length c0_1] 48 (0,0)) (by (with_reducible repeat (first|refine yE ?_ _|refine yF ?_|refine yG ?_ _));exact BK210.out) hb)
       have n1_:=Aside0.mk (yP (by repeat (first|(with_reducible first|exact HB.out|apply yA|apply yB|apply yC|refine yD ?_ GE210.out)|exact HB.out)) hb)
       clear BK210
       clear HB
       have BK210:=n0_
       have HB:=n1_
       clear n0_ n1_
       (try clear hb)
       (try clear hb2)
       (try clear hk)
       (try clear hi)
       refine hK.out _ _ ⟨(blk_cell BK210.out 0).trans rfl,(blk_cell BK210.out 1).trans rfl⟩ (fun hHeld=>?_)
       clear hK K
       refine norm_ (a':=?_) ?_ ?_
       rotate_left
       ·show Act.put _ (some 20) _=_
        simp only [Act.put,yK,yL,yM,i64_w,i32_w]
        rfl
       refine pure_ (i:=7) (N:=some 21) (v:=?_) (a':=?_) #[true,true,true,true,true,true,true,true,false,false,false] rfl rfl (any_of HT_.out (by kernel_rfl)) (fun _ _ _ h=>h) (Or.inl ⟨by rfl,?_⟩) ?_ ?_
       rotate_left
       ·intro w'
        go_simp
        with_reducible rfl
       rotate_left
       ·simp only [Act.put,yK,yL,yM,i64_w,i32_w]
        rfl
       refine pure_ (i:=8) (N:=some 22) (v:=?_) (a':=?_) #[true,true,true,true,true,true,true,true,true,false,false] rfl rfl (any_of HT_.out (by kernel_rfl)) (fun _ _ _ h=>h) (Or.inl ⟨by rfl,?_⟩) ?_ ?_
       rotate_left
       ·intro w'
        go_simp
        with_reducible rfl
       rotate_left
       ·simp only [Act.put,yK,yL,yM,i64_w,i32_w]
        rfl
       refine pure_ (i:=9) (N:=some 2) (v:=?_) (a':=?_) #[true,true,true,true,true,true,true,true,true,true,false] rfl rfl (any_of HT_.out (by kernel_rfl)) (fun _ _ _ h=>h) (Or.inl ⟨by rfl,?_⟩) ?_ ?_
       rotate_left
       ·intro w'
        go_simp
        with_reducible rfl
       rotate_left
       ·simp only [Act.put,yK,yL,yM,i64_w,i32_w]
        rfl
       refine pure_ (i:=10) (N:=some 3) (v:=?_) (a':=?_) #[true,true,true,true,true,true,true,true,true,true,true] rfl rfl (any_of HT_.out (by kernel_rfl)) (fun _ _ _ h=>h) (Or.inl ⟨by rfl,?_⟩) ?_ ?_
       rotate_left
       ·intro w'
        go_simp
        with_reducible rfl
       rotate_left
       ·simp only [Act.put,yK,yL,yM,i64_w,i32_w]
        rfl
       refine done_ (done_of HT_.out (by kernel_rfl)) ?_
       try go_wp2
       go_ret2
       exact ⟨by first|rfl|(simp [errW_none,errW_some]<;>rfl)|(simp [*,errW_none,errW_some]<;>rfl)|(simp [errW_none,errW_some];exact ⟨rfl,rfl⟩),by repeat (first|(with_reducible first|exact HB.out|apply yA|apply yB|apply yC|refine yD ?_ GE210.out)|exact HB.out)⟩
      ·rw [if_neg c12] at H
       exact absurd H (by simp)
     ·rw [if_neg c11] at H
      exact absurd H (by simp)
    ·rw [if_neg c9] at H
     exact absurd H (by simp)

end Go.Proofs.Ytneadgionjlicaa.P

namespace Go.Proofs.Ytneadgionjlicaa.P
open Go.RowKit Go.Proofs.YtneadgionjlicaaW.PrintWords Go.Proofs.YtneadgionjlicaaW.PrintLast Go.Proofs.YtneadgionjlicaaW.PrintMore
set_option linter.unusedVariables false
set_option linter.unusedSimpArgs false

theorem bool_info : (Try.prog.info? 4).map (fun i => (i.zero, i.size, i.bytes)) = some (some (.bool false), 1, 1) := by kernel_rfl
theorem take_bools {l : List Bool} {k : Nat} (h : k < l.length) : (l.take (k + 1)).map Value.bool = (l.take k).map Value.bool ++ [.bool (l.getD k false)] := by
  rw [List.take_succ_eq_append_getElem h, List.map_append, List.getD_eq_getElem?_getD, List.getElem?_eq_getElem h]; rfl

theorem frozen_alloc_old {w : World} {a : Addr} (h : w.frozen? a = false) (hl : a.block < w.heap.size) (o : Obj) : (w.alloc o).frozen? a = false :=
  (World.frozen?_of_block (Below.heap_alloc w o a.block hl)).trans h
theorem getD_left {t r : List Bool} {i : Nat} (h : i < t.length) : (t ++ r).getD i false = t.getD i false := by
  rw [List.getD_eq_getElem?_getD, List.getD_eq_getElem?_getD, List.getElem?_append_left h]
theorem getD_right {t r : List Bool} (i : Nat) : (t ++ r).getD (t.length + i) false = r.getD i false := by
  rw [List.getD_eq_getElem?_getD, List.getD_eq_getElem?_getD, List.getElem?_append_right (by omega), Nat.add_sub_cancel_left]
theorem own_set {w : World} {base : Nat} {e : TypeId} {size n : Nat} {v : Value} {xs : List Value} {b j : Nat} (h : w.ownsRow base e size v n xs) (hne : v.ownBlock ≠ some b) (u : Value) : (w.setCell ⟨b, j, none⟩ u).ownsRow base e size v n xs :=
  h.kept (row := some b) ⟨rfl, rfl, rfl, by simp [World.setCell], fun k _ hk => Below.heap_setCell _ _ _ _ (fun e => hk (by simp [e]))⟩ (Or.inr hne)
theorem set_cell0 {w : World} {b : Nat} {v0 v1 : Value} {T : TypeId} (h : w.heap[b]? = some (.cells #[v0, v1] T (0, 0))) (u : Value) : (w.setCell ⟨b, 0, none⟩ u).heap[b]? = some (.cells #[u, v1] T (0, 0)) := by
  simp [World.setCell, Array.getElem?_modify, h]
theorem set_cell1 {w : World} {b : Nat} {v0 v1 : Value} {T : TypeId} (h : w.heap[b]? = some (.cells #[v0, v1] T (0, 0))) (u : Value) : (w.setCell ⟨b, 1, none⟩ u).heap[b]? = some (.cells #[v0, u] T (0, 0)) := by
  simp [World.setCell, Array.getElem?_modify, h]
/-- A round: the call, the cell to be appended, the append. -/
theorem made_block {wr w1 w2 : World} {o ob : Obj} {row : Option Nat} {b : Nat} (hh : wr.heap[b]? = some o) (hb1 : Below wr.heap.size wr w1) (hg : (w1.alloc ob).grownBy w2 row) (hne : row ≠ some b) : w2.heap[b]? = some o := by
  have hl := blk_lt hh
  have h1 : w1.heap[b]? = some o := (hb1.block b hl).trans hh
  exact (hg.block b (by have := blk_lt h1; simp; omega) (Ne.symm hne)).trans ((Below.heap_alloc w1 ob b (blk_lt h1)).trans h1)

set_option maxHeartbeats 16000000 in
set_option maxRecDepth 100000 in
theorem impl_made.calls (k : Nat) (t r : List Bool) (r1 : ByteArray) (r2 : Bool) (g : Nat) (lb : Array Value) (w : World)
    (eg : ∀ args w, (callFunc g args).run Try.prog w = .ok (.enter g args) w)
    (hp : ∀ (W : World) (i : Nat), Below w.heap.size w W → i < t.length + r.length → Calls Try.prog g (#[.int .i64 i] ++ lb) W fun e w' => e = .returned (.bool ((t ++ r).getD i false)) ∧ Below W.heap.size W w')
    (hl : t.length + r.length ≤ 1000000) (h : (impl_set_tidy.f k t r).bind (fun y => impl_set_text.f k y.1 y.2) = some (r1, r2)) :
    Calls Try.prog 44 #[.int .i64 t.length, .int .i64 r.length, .func (.func g) #[] lb] w fun e w' => e = .returned (.tuple #[.string r1, .bool r2]) ∧ Below w.heap.size w w' := by
  obtain ⟨i0, hi, hz0, hz1, hz2⟩ := info_parts bool_info
  have HL := Aside0.mk hl
  have HP := Aside0.mk hp
  have HX := Aside0.mk h
  clear hp h hl
  go_enter Try.func44, Try.ntmps44
  go_wp2
  go_loopg [12] t.length (fun gg s12 wr => ∃ (k : Nat) (v0 : Value), k ≤ t.length ∧ t.length - k ≤ gg ∧ s12 = .int .i64 k ∧ Aside0 (wr.heap[w.heap.size]? = some (.cells #[v0, .slice none 0 0] 48 (0, 0))) ∧ Aside0 (wr.ownsRow w.heap.size 4 1 v0 k ((t.take k).map Value.bool)) ∧ Aside0 (Below w.heap.size w wr))
  case atStart =>
    exact ⟨0, .slice none 0 0, Nat.zero_le _, by omega, rfl, ⟨heap_alloc_new _ _⟩, ⟨World.ownsRow_nil _ _ _ _⟩, ⟨below_alloc (Below.refl _ _) _⟩⟩
  case round =>
    obtain ⟨kk, v0, hk, hgg, rfl, HH, HO, HB⟩ := hrel
    by_cases hlt : kk < t.length
    · obtain ⟨bv, hbv⟩ : ∃ bv, (t ++ r).getD kk false = bv := ⟨_, rfl⟩
      have hcall : ∀ W, Below w.heap.size w W → Calls Try.prog g (#[.int .i64 kk] ++ lb) W fun e w' => e = .returned (.bool bv) ∧ Below W.heap.size W w' := fun W hW => by
        have := HP.out W kk hW (by omega)
        rw [hbv] at this; exact this
      have hlen := HL.out
      have c0 : wr.cell? ⟨w.heap.size, 0, none⟩ = some v0 := by rw [Lib.cell_of_heap HH.out]; rfl
      have f0 : wr.frozen? ⟨w.heap.size, 0, none⟩ = false := Lib.frozen_of_heap HH.out 0
      have hbl : w.heap.size < wr.heap.size := World.block_lt_of_cell? wr _ c0
      have hne : v0.ownBlock ≠ some w.heap.size := Lib.ownBlock_ne HO.out HH.out (by decide)
      have HV := Aside0.mk hbv
      have HCall := Aside0.mk hcall
      clear hbv hcall
      go_wp2_with fail
      go_region_law ((first
          | (go_simp; go_at_fn g; refine (HCall.out _ (by repeat (first | exact HB.out | apply below_drew1))).mono ?_; rintro e w1 ⟨rfl, hb0⟩; have hb1 : Below wr.heap.size wr w1 := ⟨hb0.os, hb0.tape, hb0.output, hb0.size, hb0.block⟩; have c1 : w1.cell? ⟨w.heap.size, 0, none⟩ = some v0 := (hb1.cell (p := ⟨w.heap.size, 0, none⟩) hbl).trans c0; have f1 : w1.frozen? ⟨w.heap.size, 0, none⟩ = false := (hb1.frozen (p := ⟨w.heap.size, 0, none⟩) hbl).trans f0; have hl1 := Nat.lt_of_lt_of_le hbl hb1.size; have hlN := Nat.le_trans (Nat.le_of_lt hbl) hb1.size; have c1a : ∀ o, (w1.alloc o).cell? ⟨w.heap.size, 0, none⟩ = some v0 := fun o => Lib.cell?_alloc_some _ c1)
          | (refine step_append_lies _ (by rfl) _ _ _ (by rfl) w.heap.size 4 i0 _ 1 1 Try.underlying46 hi hz0 hz1 hz2 rfl (by omega) v0 kk ((t.take kk).map Value.bool) (by rfl) (pw_own_below HO.out (by repeat (first | exact hb1 | apply below_alloc | apply below_drew1))) ⟨w1.heap.size, 0, none⟩ 1 1 [.bool bv] (by rfl) (by rfl) (World.news_of_block (cs := #[.bool bv]) (t := 4) (fr := (0, 0)) (heap_alloc_new _ _)) (by simp [Value.oneCell']) (by omega) (by unfold maxLen; omega) (by omega) (by simp; omega) _ rfl ?_; intro gg cap w2 hown2 hgrow hat hlt2; have f2 : w2.frozen? ⟨w.heap.size, 0, none⟩ = false := (hgrow.frozen_far ⟨w.heap.size, 0, none⟩ (by simp; omega) (Ne.symm hne)).trans (frozen_alloc_old f1 hl1 _); have c2 : w2.cell? ⟨w.heap.size, 0, none⟩ = some v0 := (hgrow.cell_far ⟨w.heap.size, 0, none⟩ (by simp; omega) (Ne.symm hne)).trans (c1a _))))
      all_goals
        go_wp2
        go_roundg (t.length - (kk + 1))
        case measure => omega
        case rel =>
          have hw2 := made_block HH.out hb1 hgrow hne
          have e : t.getD kk false = bv := (getD_left hlt).symm.trans HV.out
          refine ⟨kk + 1, _, by omega, by omega, by go_num, ⟨set_cell0 hw2 _⟩, ⟨?_⟩, ⟨((below_alloc (below_step HB.out hb1) _).grown hgrow (by have := hb1.size; simp; omega) (fun k hk => (HO.out.lt k hk).1)).setCell (Nat.le_refl _) _⟩⟩
          rw [take_bools hlt, e]
          exact own_set hown2 (Lib.ownBlock_ne hown2 hw2 (by decide)) _
    · have e : kk = t.length := by omega
      subst e
      have e : t.take t.length = t := List.take_of_length_le (Nat.le_refl _)
      rw [e] at HO
      clear e
      obtain ⟨B2, hB2⟩ : ∃ B2, wr.heap.size = B2 := ⟨_, rfl⟩
      have hv0 : ∀ k, v0.ownBlock = some k → k < B2 := fun k hk => by rw [← hB2]; exact (HO.out.lt k hk).2
      have hn0 : v0.ownBlock ≠ some w.heap.size := Lib.ownBlock_ne HO.out HH.out (by decide)
      have HB2 := Aside0.mk hB2
      have HV0 := Aside0.mk hv0
      have HN0 := Aside0.mk hn0
      clear hB2 hv0 hn0
      go_wp2
      go_loopg [25] r.length (fun gg s25 wq => ∃ (k : Nat) (v1 : Value), k ≤ r.length ∧ r.length - k ≤ gg ∧ s25 = .int .i64 k ∧ Aside0 (wq.heap[w.heap.size]? = some (.cells #[v0, v1] 48 (0, 0))) ∧ Aside0 (wq.ownsRow w.heap.size 4 1 v0 t.length (t.map Value.bool)) ∧ Aside0 (wq.ownsRow B2 4 1 v1 k ((r.take k).map Value.bool)) ∧ Aside0 (Below w.heap.size w wq) ∧ Aside0 (B2 ≤ wq.heap.size) ∧ Aside0 (w.heap.size < B2))
      case atStart =>
        exact ⟨0, .slice none 0 0, Nat.zero_le _, by omega, rfl, HH, HO, ⟨World.ownsRow_nil _ _ _ _⟩, HB, ⟨Nat.le_of_eq HB2.out.symm⟩, ⟨by have := blk_lt HH.out; have := HB2.out; omega⟩⟩
      case round =>
        clear HO HH HB
        clear hk hgg hlt
        clear HB2
        obtain ⟨kk, v1, hk, hgg, rfl, HH, HO, HR, HB, HQ, HL2⟩ := hrel
        by_cases hlt : kk < r.length
        · obtain ⟨bv, hbv⟩ : ∃ bv, (t ++ r).getD (t.length + kk) false = bv := ⟨_, rfl⟩
          have hsum : IntKind.i64.wrap ((t.length : Int) + (kk : Int)) = ((t.length + kk : Nat) : Int) := by rw [IntKind.wrap_i64]; have := HL.out; omega
          have hcall : ∀ W, Below w.heap.size w W → Calls Try.prog g (#[.int .i64 ((t.length + kk : Nat) : Int)] ++ lb) W fun e w' => e = .returned (.bool bv) ∧ Below W.heap.size W w' := fun W hW => by
            have := HP.out W (t.length + kk) hW (by omega)
            rw [hbv] at this; exact this
          have hlen := HL.out
          have c0 : wr.cell? ⟨w.heap.size, 1, none⟩ = some v1 := by rw [Lib.cell_of_heap HH.out]; rfl
          have f0 : wr.frozen? ⟨w.heap.size, 1, none⟩ = false := Lib.frozen_of_heap HH.out 1
          have hbl : w.heap.size < wr.heap.size := World.block_lt_of_cell? wr _ c0
          have hne : v1.ownBlock ≠ some w.heap.size := Lib.ownBlock_ne HR.out HH.out (by decide)
          have HV := Aside0.mk hbv
          have HCall := Aside0.mk hcall
          clear hbv hcall
          go_wp2_with fail
          go_region_law ((first
              | (go_simp; go_at_fn g; refine (HCall.out _ (by repeat (first | exact HB.out | apply below_drew1))).mono ?_; rintro e w1 ⟨rfl, hb0⟩; have hb1 : Below wr.heap.size wr w1 := ⟨hb0.os, hb0.tape, hb0.output, hb0.size, hb0.block⟩; have c1 : w1.cell? ⟨w.heap.size, 1, none⟩ = some v1 := (hb1.cell (p := ⟨w.heap.size, 1, none⟩) hbl).trans c0; have f1 : w1.frozen? ⟨w.heap.size, 1, none⟩ = false := (hb1.frozen (p := ⟨w.heap.size, 1, none⟩) hbl).trans f0; have hl1 := Nat.lt_of_lt_of_le hbl hb1.size; have hlN := Nat.le_trans HQ.out hb1.size; have c1a : ∀ o, (w1.alloc o).cell? ⟨w.heap.size, 1, none⟩ = some v1 := fun o => Lib.cell?_alloc_some _ c1)
              | (refine step_append_lies _ (by rfl) _ _ _ (by rfl) B2 4 i0 _ 1 1 Try.underlying46 hi hz0 hz1 hz2 rfl (by omega) v1 kk ((r.take kk).map Value.bool) (by rfl) (pw_own_below HR.out (by repeat (first | exact hb1 | apply below_alloc | apply below_drew1))) ⟨w1.heap.size, 0, none⟩ 1 1 [.bool bv] (by rfl) (by rfl) (World.news_of_block (cs := #[.bool bv]) (t := 4) (fr := (0, 0)) (heap_alloc_new _ _)) (by simp [Value.oneCell']) (by omega) (by unfold maxLen; omega) (by omega) (by simp; omega) _ rfl ?_; intro gg cap w2 hown2 hgrow hat hlt2; have f2 : w2.frozen? ⟨w.heap.size, 1, none⟩ = false := (hgrow.frozen_far ⟨w.heap.size, 1, none⟩ (by simp; omega) (Ne.symm hne)).trans (frozen_alloc_old f1 hl1 _); have c2 : w2.cell? ⟨w.heap.size, 1, none⟩ = some v1 := (hgrow.cell_far ⟨w.heap.size, 1, none⟩ (by simp; omega) (Ne.symm hne)).trans (c1a _))))
          all_goals
            go_wp2
            go_roundg (r.length - (kk + 1))
            case measure => omega
            case rel =>
              have hw2 := made_block HH.out hb1 hgrow hne
              have e : r.getD kk false = bv := (getD_right kk).symm.trans HV.out
              have hsz := hb1.size
              have hB2 := HQ.out
              have hown0 := ((pw_own_below HO.out hb1).alloc (Obj.cells #[.bool bv] 4)).kept hgrow (Classical.byCases (fun h : v0.ownBlock = none => Or.inl h) (fun h => Or.inr (fun e => by
                obtain ⟨q, hq⟩ := Option.ne_none_iff_exists'.1 h
                have h1 := HV0.out q hq
                have h2 := (HR.out.lt q (e.symm.trans hq)).1
                omega)))
              refine ⟨kk + 1, _, by omega, by omega, by go_num, ⟨set_cell1 hw2 _⟩, ⟨own_set hown0 HN0.out _⟩, ⟨?_⟩, ⟨((below_alloc (below_step HB.out hb1) _).grown hgrow (by simp; omega) (fun k hk => by have := (HR.out.lt k hk).1; have := HL2.out; omega)).setCell (Nat.le_refl _) _⟩, ⟨by have := hgrow.size; simp [World.setCell] at this ⊢; omega⟩, HL2⟩
              rw [take_bools hlt, e]
              exact own_set hown2 (Lib.ownBlock_ne hown2 hw2 (by decide)) _
        · have e : kk = r.length := by omega
          subst e
          have e : r.take r.length = r := List.take_of_length_le (Nat.le_refl _)
          rw [e] at HR
          have hX := HX.out
          cases hy : impl_set_tidy.f k t r with
          | none => rw [hy] at hX; cases hX
          | some y =>
            rw [hy] at hX
            obtain ⟨A0, n0, rfl, hn0, hC0⟩ := Kd.R_reads (d := Kd.bool) (Kd.R_of_own (ok := fun _ => True) HO.out (fun _ _ => trivial))
            obtain ⟨A1, n1, rfl, hn1, hC1⟩ := Kd.R_reads (d := Kd.bool) (Kd.R_of_own (ok := fun _ => True) HR.out (fun _ _ => trivial))
            have c0 : wr.cell? ⟨w.heap.size, 0, none⟩ = some (.slice A0 t.length n0) := by rw [Lib.cell_of_heap HH.out]; rfl
            have c1 : wr.cell? ⟨w.heap.size, 1, none⟩ = some (.slice A1 r.length n1) := by rw [Lib.cell_of_heap HH.out]; rfl
            have ht := impl_set_tidy.calls k A0 n0 t A1 n1 r y.1 y.2 wr hC0 hn0 hC1 hn1 hy
            have hX2 : impl_set_text.f k y.1 y.2 = some (r1, r2) := hX
            have HX2 := Aside0.mk hX2
            have HT := Aside0.mk ht
            have HB' := HB
            have hu := Try.underlying48
            clear HB HX hX hX2 ht HP HL HL2 HQ HR HO HH hy hC0 hC1 HN0 HV0 hgg hk hlt hn0 hn1 e
            go_wp2_with (first
              | (go_at_call 70; refine HT.out.mono ?_; rintro e w1 ⟨v0_, v1_, rfl, hR0, hR1, hb1⟩; obtain ⟨A2, n2, rfl, hn2, hC2⟩ := Kd.R_reads hR0; obtain ⟨A3, n3, rfl, hn3, hC3⟩ := Kd.R_reads hR1; have HT2 := Aside0.mk (impl_set_text.calls k A2 n2 y.1 A3 n3 y.2 r1 r2 w1 hC2 hn2 hC3 hn3 HX2.out); have HB1 := Aside0.mk (below_step HB'.out hb1); clear hR0 hR1 hC2 hC3 hn2 hn3 hb1 HT)
              | (go_at_call 71; refine HT2.out.mono ?_; rintro e w2 ⟨rfl, hb2⟩))
            go_ret2
            exact ⟨rfl, below_step HB1.out hb2⟩
end Go.Proofs.Ytneadgionjlicaa.P

namespace Go.Proofs.Ytneadgionjlicaa.P
open Go.RowKit Go.Proofs.YtneadgionjlicaaW.PrintWords Go.Proofs.YtneadgionjlicaaW.PrintLast Go.Proofs.YtneadgionjlicaaW.PrintMore
attribute [local go_sem] max2_int min2_int max_two min_two max_three min_three max_four min_four   -- for this text's walks alone
set_option linter.unusedVariables false
set_option linter.unusedSimpArgs false

/-! ### stringslite_Cut: function 75 -/
def stringslite_Cut.f (a0:ByteArray) (a1:ByteArray):Option (ByteArray × ByteArray × Bool):=(stringslite_Index.f a0 a1).bind fun t138=>(if t138 ≥ 0 then (if 0≤t138 then (if t138≤(a0.size:Int) then (if 0≤(wrap64 (t138+(a1.size:Int))) then (if (wrap64 (t138+(a1.size:Int)))≤(a0.size:Int) then (some (a0.extract 0 (t138:Int).toNat,a0.extract ((wrap64 (t138+(a1.size:Int))):Int).toNat a0.size,true)) else (none)) else (none)) else (none)) else (none)) else (some (a0,(⟨#[]⟩:ByteArray),false)))
set_option maxHeartbeats 8000000 in
set_option maxRecDepth 100000 in
theorem stringslite_Cut.calls (a0:ByteArray) (a1:ByteArray) (r1:ByteArray) (r2:ByteArray) (r3:Bool) (w:World) (h:stringslite_Cut.f a0 a1=some (r1,r2,r3)) :
  Calls Try.prog 75 #[.string a0,.string a1] w fun e w'=>e=.returned (.tuple #[.string r1,.string r2,.bool r3])∧Drawn0 w w':=by
 have H:((stringslite_Index.f a0 a1).bind fun t138=>(if t138 ≥ 0 then (if 0≤t138 then (if t138≤(a0.size:Int) then (if 0≤(wrap64 (t138+(a1.size:Int))) then (if (wrap64 (t138+(a1.size:Int)))≤(a0.size:Int) then (some (a0.extract 0 (t138:Int).toNat,a0.extract ((wrap64 (t138+(a1.size:Int))):Int).toNat a0.size,true)) else (none)) else (none)) else (none)) else (none)) else (some (a0,(⟨#[]⟩:ByteArray),false))))=some (r1,r2,r3):=h
 clear h
 replace H:=Option.bind_eq_some_iff.mp H
 obtain ⟨t138,A30,H⟩:=H
 replace H:(if t138 ≥ 0 then (if 0≤t138 then (if t138≤(a0.size:Int) then (if 0≤(wrap64 (t138+(a1.size:Int))) then (if (wrap64 (t138+(a1.size:Int)))≤(a0.size:Int) then (some (a0.extract 0 (t138:Int).toNat,a0.extract ((wrap64 (t138+(a1.size:Int))):Int).toNat a0.size,true)) else (none)) else (none)) else (none)) else (none)) else (some (a0,(⟨#[]⟩:ByteArray),false)))=some (r1,r2,r3):=H
 have A3:=Aside0.mk A30
 clear A30
 by_cases c4:t138 ≥ 0
 ·rw [if_pos c4] at H
  have c4b0:decide (0≤t138)=true:=decide_eq_true c4
  clear c4
  by_cases c5:0≤t138
  ·rw [if_pos c5] at H
   have c5b0:=eq_true c5
   have c5b1:decide (0≤t138)=true:=decide_eq_true c5
   clear c5
   by_cases c6:t138≤(a0.size:Int)
   ·rw [if_pos c6] at H
    have c6b0:=eq_true c6
    have c6b1:decide (t138≤(a0.size:Int))=true:=decide_eq_true c6
    clear c6
    obtain ⟨ji7,hji7⟩:∃ j_:Int,(wrap64 (t138+(a1.size:Int)))=j_:=⟨_,rfl⟩
    replace H:(if 0≤(ji7) then (if (ji7)≤(a0.size:Int) then (some (a0.extract 0 (t138:Int).toNat,a0.extract ((ji7):Int).toNat a0.size,true)) else (none)) else (none))=some (r1,r2,r3):=by first|(rw [hji7] at H;exact H)|(simp only [hji7] at H ⊢;exact H)
    (try rw [hji7] at A3)
    have hji7w:(IntKind.i64.wrap (t138+(a1.size:Int)))=ji7:=(i64_w _).trans hji7
    by_cases c8:0≤(ji7)
    ·rw [if_pos c8] at H
     have c8b0:=eq_true c8
     have c8b1:decide (0≤(ji7))=true:=decide_eq_true c8
     clear c8
     by_cases c9:(ji7)≤(a0.size:Int)
     ·rw [if_pos c9] at H
      have c9b0:=eq_true c9
      have c9b1:decide ((ji7)≤(a0.size:Int))=true:=decide_eq_true c9
      clear c9
      simp only [Option.some.injEq,Prod.mk.injEq] at H
      obtain ⟨rfl,rfl,rfl⟩:=H
      go_enter Try.func75,Try.ntmps75
      go_wp2_with (first|(go_at_call 86;(with_reducible refine (stringslite_Index.calls a0 a1 t138 _ A3.out).mono ?_);rintro e w' ⟨rfl,⟨nd,rfl⟩⟩;(try first|exact ⟨rfl,_,World.drewN_drewN _ _ _⟩|exact ⟨rfl,_,Eq.trans (World.drewN_drewN _ _ _) (congrArg (World.drewN _) (Nat.add_assoc _ _ _))⟩)))
      repeat (go_quiet (first|(go_at_call 86;(with_reducible refine (stringslite_Index.calls a0 a1 t138 _ A3.out).mono ?_);rintro e w' ⟨rfl,⟨nd,rfl⟩⟩;(try first|exact ⟨rfl,_,World.drewN_drewN _ _ _⟩|exact ⟨rfl,_,Eq.trans (World.drewN_drewN _ _ _) (congrArg (World.drewN _) (Nat.add_assoc _ _ _))⟩)));try go_wp2_with (first|(go_at_call 86;(with_reducible refine (stringslite_Index.calls a0 a1 t138 _ A3.out).mono ?_);rintro e w' ⟨rfl,⟨nd,rfl⟩⟩;(try first|exact ⟨rfl,_,World.drewN_drewN _ _ _⟩|exact ⟨rfl,_,Eq.trans (World.drewN_drewN _ _ _) (congrArg (World.drewN _) (Nat.add_assoc _ _ _))⟩))))
      go_ret3
      exact ⟨by first|rfl|(simp;done)|(simp only [← hji7]<;>(first|rfl|simp))|(simp [*];done),by repeat (first|exact Drawn0.refl _|apply Drawn0.step)⟩
     ·rw [if_neg c9] at H
      exact absurd H (by simp)
    ·rw [if_neg c8] at H
     exact absurd H (by simp)
   ·rw [if_neg c6] at H
    exact absurd H (by simp)
  ·rw [if_neg c5] at H
   exact absurd H (by simp)
 ·rw [if_neg c4] at H
  have c4b0:decide (0≤t138)=false:=decide_eq_false c4
  clear c4
  simp only [Option.some.injEq,Prod.mk.injEq] at H
  obtain ⟨rfl,rfl,rfl⟩:=H
  go_enter Try.func75,Try.ntmps75
  go_wp2_with (first|(go_at_call 86;(with_reducible refine (stringslite_Index.calls a0 a1 t138 _ A3.out).mono ?_);rintro e w' ⟨rfl,⟨nd,rfl⟩⟩;(try first|exact ⟨rfl,_,World.drewN_drewN _ _ _⟩|exact ⟨rfl,_,Eq.trans (World.drewN_drewN _ _ _) (congrArg (World.drewN _) (Nat.add_assoc _ _ _))⟩)))
  repeat (go_quiet (first|(go_at_call 86;(with_reducible refine (stringslite_Index.calls a0 a1 t138 _ A3.out).mono ?_);rintro e w' ⟨rfl,⟨nd,rfl⟩⟩;(try first|exact ⟨rfl,_,World.drewN_drewN _ _ _⟩|exact ⟨rfl,_,Eq.trans (World.drewN_drewN _ _ _) (congrArg (World.drewN _) (Nat.add_assoc _ _ _))⟩)));try go_wp2_with (first|(go_at_call 86;(with_reducible refine (stringslite_Index.calls a0 a1 t138 _ A3.out).mono ?_);rintro e w' ⟨rfl,⟨nd,rfl⟩⟩;(try first|exact ⟨rfl,_,World.drewN_drewN _ _ _⟩|exact ⟨rfl,_,Eq.trans (World.drewN_drewN _ _ _) (congrArg (World.drewN _) (Nat.add_assoc _ _ _))⟩))))
  go_ret3
  exact ⟨by first|rfl|(simp;done)|(simp [*];done),by repeat (first|exact Drawn0.refl _|apply Drawn0.step)⟩

end Go.Proofs.Ytneadgionjlicaa.P

namespace Go.Proofs.Ytneadgionjlicaa.P
open Go.RowKit Go.Proofs.YtneadgionjlicaaW.PrintWords Go.Proofs.YtneadgionjlicaaW.PrintLast Go.Proofs.YtneadgionjlicaaW.PrintMore
attribute [local go_sem] max2_int min2_int max_two min_two max_three min_three max_four min_four   -- for this text's walks alone
set_option linter.unusedVariables false
set_option linter.unusedSimpArgs false

/-! ### strings_Cut: function 55 -/
def strings_Cut.f (a0:ByteArray) (a1:ByteArray):Option (ByteArray × ByteArray × Bool):=(stringslite_Cut.f a0 a1).bind fun bt139=>(some (bt139.1,bt139.2.1,bt139.2.2))
set_option maxHeartbeats 8000000 in
set_option maxRecDepth 100000 in
theorem strings_Cut.calls (a0:ByteArray) (a1:ByteArray) (r1:ByteArray) (r2:ByteArray) (r3:Bool) (w:World) (h:strings_Cut.f a0 a1=some (r1,r2,r3)) :
  Calls Try.prog 55 #[.string a0,.string a1] w fun e w'=>e=.returned (.tuple #[.string r1,.string r2,.bool r3])∧Drawn0 w w':=by
 have H:((stringslite_Cut.f a0 a1).bind fun bt139=>(some (bt139.1,bt139.2.1,bt139.2.2)))=some (r1,r2,r3):=h
 clear h
 replace H:=Option.bind_eq_some_iff.mp H
 obtain ⟨⟨t139,t140,t141⟩,A30,H⟩:=H
 replace H:(some (t139,t140,t141))=some (r1,r2,r3):=H
 have A3:=Aside0.mk A30
 clear A30
 simp only [Option.some.injEq,Prod.mk.injEq] at H
 obtain ⟨rfl,rfl,rfl⟩:=H
 go_enter Try.func55,Try.ntmps55
 go_wp2_with (first|((with_reducible refine gate_callee (f:=75) rfl ?_);refine goesL_ (some 9) rfl rfl Try.func75 (by kernel_rfl) rfl #[.string a0,.string a1] rfl (by (try simp only [List.map_toArray,List.map_cons,List.map_nil]);first|done|rfl|(simp only [List.length_drop,List.length_take];rfl)) ?_;(with_reducible refine (stringslite_Cut.calls a0 a1 t139 t140 t141 _ A3.out).mono ?_);rintro e w' ⟨rfl,⟨nd,rfl⟩⟩;refine ⟨_,rfl,?_⟩))
 go_ret3
 exact ⟨by first|rfl|(simp;done)|(simp [*];done),by repeat (first|exact Drawn0.refl _|apply Drawn0.step)⟩

end Go.Proofs.Ytneadgionjlicaa.P

namespace Go.Proofs.Ytneadgionjlicaa.P
open Go.RowKit Go.Proofs.YtneadgionjlicaaW.PrintWords Go.Proofs.YtneadgionjlicaaW.PrintLast Go.Proofs.YtneadgionjlicaaW.PrintMore
attribute [local go_sem] max2_int min2_int max_two min_two max_three min_three max_four min_four   -- for this text's walks alone
set_option linter.unusedVariables false
set_option linter.unusedSimpArgs false

/-! ### impl_setOf: function 30 -/
def impl_setOf.f (k:Nat) (a0:ByteArray):Option (List Bool × List Bool × Bool):=(strings_Cut.f a0 (⟨#[40]⟩:ByteArray)).bind fun bt156=>((strings_CutSuffix.f bt156.2.1 (⟨#[41]⟩:ByteArray)).bind fun bt159=>((impl_signs.f k bt156.1).bind fun bt161=>((impl_signs.f k bt159.1).bind fun bt165=>(if bt156.2.2=true then (if bt159.2=true then (if bt161.2=true then (if bt165.2=true then (some (bt161.1,bt165.1,decide ((bt165.1.length:Int) > 0))) else (some (bt161.1,bt165.1,false))) else (some (bt161.1,bt165.1,false))) else (some (bt161.1,bt165.1,false))) else (some (bt161.1,bt165.1,false))))))
theorem impl_setOf.mono:∀ a0 k,LeO (impl_setOf.f k a0) (impl_setOf.f (k+1) a0):=by
 intro a0 k
 unfold impl_setOf.f
 repeat' first
   | (with_reducible exact impl_signs.mono _ _)
   | (with_reducible exact LeO.refl _)
   | (with_reducible exact LeO.none _)
   | (with_reducible refine LeO.ite ?_ ?_)
   | (with_reducible refine LeO.bind ?_ (fun _=>?_))
   | exact impl_signs.mono _ _
   | exact LeO.none _
   | refine LeO.ite ?_ ?_
   | refine LeO.bind ?_ (fun _=>?_)
set_option maxHeartbeats 8000000 in
set_option maxRecDepth 100000 in
theorem impl_setOf.calls (k:Nat) (a0:ByteArray) (r1:List Bool) (r2:List Bool) (r3:Bool) (w:World) (h:impl_setOf.f k a0=some (r1,r2,r3)) :
  Calls Try.prog 30 #[.string a0] w fun e w'=>∃ v0_ v1_:Value,e=.returned (.tuple #[.agg #[v0_,v1_],.bool r3])∧Kd.R Kd.bool 4 w' w.heap.size (fun k_=>some k_≠(v1_:Value).ownBlock) v0_ r1∧Kd.R Kd.bool 4 w' w.heap.size (fun k_=>some k_≠(v0_:Value).ownBlock) v1_ r2∧Below w.heap.size w w':=by
 have hu48:=Try.underlying48
 have HB:=Aside0.mk (Below.refl w.heap.size w)
 have H:((strings_Cut.f a0 (⟨#[40]⟩:ByteArray)).bind fun bt156=>((strings_CutSuffix.f bt156.2.1 (⟨#[41]⟩:ByteArray)).bind fun bt159=>((impl_signs.f k bt156.1).bind fun bt161=>((impl_signs.f k bt159.1).bind fun bt165=>(if bt156.2.2=true then (if bt159.2=true then (if bt161.2=true then (if bt165.2=true then (some (bt161.1,bt165.1,decide ((bt165.1.length:Int) > 0))) else (some (bt161.1,bt165.1,false))) else (some (bt161.1,bt165.1,false))) else (some (bt161.1,bt165.1,false))) else (some (bt161.1,bt165.1,false)))))))=some (r1,r2,r3):=h
 clear h
 replace H:=Option.bind_eq_some_iff.mp H
 obtain ⟨⟨t156,t157,t158⟩,A20,H⟩:=H
 replace H:((strings_CutSuffix.f t157 (⟨#[41]⟩:ByteArray)).bind fun bt159=>((impl_signs.f k t156).bind fun bt161=>((impl_signs.f k bt159.1).bind fun bt165=>(if t158=true then (if bt159.2=true then (if bt161.2=true then (if bt165.2=true then (some (bt161.1,bt165.1,decide ((bt165.1.length:Int) > 0))) else (some (bt161.1,bt165.1,false))) else (some (bt161.1,bt165.1,false))) else (some (bt161.1,bt165.1,false))) else (some (bt161.1,bt165.1,false))))))=some (r1,r2,r3):=H
 have A2:=Aside0.mk A20
 clear A20
 replace H:=Option.bind_eq_some_iff.mp H
 obtain ⟨⟨t159,t160⟩,A30,H⟩:=H
 replace H:((impl_signs.f k t156).bind fun bt161=>((impl_signs.f k t159).bind fun bt165=>(if t158=true then (if t160=true then (if bt161.2=true then (if bt165.2=true then (some (bt161.1,bt165.1,decide ((bt165.1.length:Int) > 0))) else (some (bt161.1,bt165.1,false))) else (some (bt161.1,bt165.1,false))) else (some (bt161.1,bt165.1,false))) else (some (bt161.1,bt165.1,false)))))=some (r1,r2,r3):=H
 have A3:=Aside0.mk A30
 clear A30
 replace H:=Option.bind_eq_some_iff.mp H
 obtain ⟨⟨t161,t162⟩,A40,H⟩:=H
 replace H:((impl_signs.f k t159).bind fun bt165=>(if t158=true then (if t160=true then (if t162=true then (if bt165.2=true then (some (t161,bt165.1,decide ((bt165.1.length:Int) > 0))) else (some (t161,bt165.1,false))) else (some (t161,bt165.1,false))) else (some (t161,bt165.1,false))) else (some (t161,bt165.1,false))))=some (r1,r2,r3):=H
 have A4:=Aside0.mk A40
 clear A40
 replace H:=Option.bind_eq_some_iff.mp H
 obtain ⟨⟨t165,t166⟩,A50,H⟩:=H
 replace H:(if t158=true then (if t160=true then (if t162=true then (if t166=true then (some (t161,t165,decide ((t165.length:Int) > 0))) else (some (t161,t165,false))) else (some (t161,t165,false))) else (some (t161,t165,false))) else (some (t161,t165,false)))=some (r1,r2,r3):=H
 have A5:=Aside0.mk A50
 clear A50
 by_cases c6:t158=true
 ·subst c6
  have H1:(if t160=true then (if t162=true then (if t166=true then (some (t161,t165,decide ((t165.length:Int) > 0))) else (some (t161,t165,false))) else (some (t161,t165,false))) else (some (t161,t165,false)))=some (r1,r2,r3):=by rw [if_pos rfl] at H;exact H
  clear H
  have H:=H1
  clear H1
  by_cases c7:t160=true
  ·subst c7
   have H1:(if t162=true then (if t166=true then (some (t161,t165,decide ((t165.length:Int) > 0))) else (some (t161,t165,false))) else (some (t161,t165,false)))=some (r1,r2,r3):=by rw [if_pos rfl] at H;exact H
   clear H
   have H:=H1
   clear H1
   by_cases c8:t162=true
   ·subst c8
    have H1:(if t166=true then (some (t161,t165,decide ((t165.length:Int) > 0))) else (some (t161,t165,false)))=some (r1,r2,r3):=by rw [if_pos rfl] at H;exact H
    clear H
    have H:=H1
    clear H1
    by_cases c9:t166=true
    ·subst c9
     have H1:(some (t161,t165,decide ((t165.length:Int) > 0)))=some (r1,r2,r3):=by rw [if_pos rfl] at H;exact H
     clear H
     have H:=H1
     clear H1
     simp only [Option.some.injEq,Prod.mk.injEq] at H
     obtain ⟨rfl,rfl,rfl⟩:=H
     go_enter Try.func30,Try.ntmps30
     go_wp2_with (first|((with_reducible refine gate_dst (N:=2) rfl ?_);(try (refine gate_guard (by rfl) ?_;dsimp only));refine box_event ?hg (N:=2) ?hd (cs:=#[.slice none 0 0,.slice none 0 0]) (t:=48) ?hr ?_;(case hd=>rfl);(case hg=>rfl);(case hr=>first|(go_simp;done)|(go_simp;rfl));intro gb155 hg w10 hbox hb;have n0_:=Aside0.mk (yP (by repeat (first|(with_reducible first|exact HB.out|apply yA|apply yB|apply yC)|exact HB.out)) hb);have n1_:=Aside0.mk (hbox);have n2_:=Aside0.mk ((by rw [hg];exact (yQ (by repeat (first|(with_reducible first|exact HB.out|apply yA|apply yB|apply yC)|exact HB.out))):w.heap.size≤gb155));have n3_:=Aside0.mk ((by rw [hg];exact (yQ (by repeat (first|(with_reducible first|exact HB.out|apply yA|apply yB|apply yC)|exact HB.out))):w.heap.size≤gb155));clear HB;have HB:=n0_;have BK155:=n1_;have GW155:=n2_;have GE155:=n3_;clear n0_ n1_ n2_ n3_;clear hb hbox hg)|((with_reducible refine gate_callee (f:=55) rfl ?_);refine goesL_ (some 15) rfl rfl Try.func55 (by kernel_rfl) rfl #[.string a0,.string (⟨#[40]⟩:ByteArray)] rfl (by (try simp only [List.map_toArray,List.map_cons,List.map_nil]);first|done|rfl|(simp only [List.length_drop,List.length_take];rfl)) ?_;(with_reducible refine (strings_Cut.calls a0 (⟨#[40]⟩:ByteArray) t156 t157 true _ A2.out).mono ?_);rintro e w' ⟨rfl,⟨nd,rfl⟩⟩;refine ⟨_,rfl,?_⟩;(try (rw [drewN_self w10];generalize hq_:World.drewN w10 _=w10;have n0_:Aside0 (w10.heap[gb155]?=some (.cells #[.slice none 0 0,.slice none 0 0] 48 (0,0))):=⟨by rw [← hq_];exact (by (with_reducible repeat (first|refine yE ?_ _|refine yF ?_|refine yG ?_ _));exact BK155.out)⟩;have n1_:Aside0 (Below w.heap.size w w10):=⟨by rw [← hq_];exact (by repeat (first|(with_reducible first|exact HB.out|apply yA|apply yB|apply yC|refine yD ?_ GE155.out)|exact HB.out))⟩;clear BK155 HB hq_;have BK155:=n0_;have HB:=n1_;clear n0_ n1_)))|((with_reducible refine gate_callee (f:=56) rfl ?_);refine goesL_ (some 21) rfl rfl Try.func56 (by kernel_rfl) rfl #[.string t157,.string (⟨#[41]⟩:ByteArray)] rfl (by (try simp only [List.map_toArray,List.map_cons,List.map_nil]);first|done|rfl|(simp only [List.length_drop,List.length_take];rfl)) ?_;(with_reducible refine (strings_CutSuffix.calls t157 (⟨#[41]⟩:ByteArray) t159 true _ A3.out).mono ?_);rintro e w' ⟨rfl,⟨nd,rfl⟩⟩;refine ⟨_,rfl,?_⟩;(try (rw [drewN_self w10];generalize hq_:World.drewN w10 _=w10;have n0_:Aside0 (w10.heap[gb155]?=some (.cells #[.slice none 0 0,.slice none 0 0] 48 (0,0))):=⟨by rw [← hq_];exact (by (with_reducible repeat (first|refine yE ?_ _|refine yF ?_|refine yG ?_ _));exact BK155.out)⟩;have n1_:Aside0 (Below w.heap.size w w10):=⟨by rw [← hq_];exact (by repeat (first|(with_reducible first|exact HB.out|apply yA|apply yB|apply yC|refine yD ?_ GE155.out)|exact HB.out))⟩;clear BK155 HB hq_;have BK155:=n0_;have HB:=n1_;clear n0_ n1_)))|((with_reducible refine gate_callee (f:=57) rfl ?_);refine goesL_ (some 26) rfl rfl Try.func57 (by kernel_rfl) rfl #[.string t156] rfl (by (try simp only [List.map_toArray,List.map_cons,List.map_nil]);first|done|rfl|(simp only [List.length_drop,List.length_take];rfl)) ?_;(with_reducible refine (impl_signs.calls k t156 t161 true _ A4.out).mono ?_);rintro e w11 ⟨v163,rfl,ho0,hb⟩;refine ⟨_,rfl,?_⟩;have n0_:=Aside0.mk (Kd.R_lower ho0 (yQ (by repeat (first|(with_reducible first|exact HB.out|apply yA|apply yB|apply yC|refine yD ?_ GE155.out)|exact HB.out))));have n1_:=Aside0.mk (blk_below (g:=gb155) (o:=.cells #[.slice none 0 0,.slice none 0 0] 48 (0,0)) (by (with_reducible repeat (first|refine yE ?_ _|refine yF ?_|refine yG ?_ _));exact BK155.out) hb);have n2_:=Aside0.mk (yP (by repeat (first|(with_reducible first|exact HB.out|apply yA|apply yB|apply yC|refine yD ?_ GE155.out)|exact HB.out)) hb);clear BK155;clear HB;have HO164:=n0_;have BK155:=n1_;have HB:=n2_;clear n0_ n1_ n2_;(try clear hb);(try clear hb2);(try clear hk);(try clear hi);(try clear ho0))|((with_reducible refine gate_callee (f:=57) rfl ?_);refine goesL_ (some 31) rfl rfl Try.func57 (by kernel_rfl) rfl #[.string t159] rfl (by (try simp only [List.map_toArray,List.map_cons,List.map_nil]);first|done|rfl|(simp only [List.length_drop,List.length_take];rfl)) ?_;(with_reducible refine (impl_signs.calls k t159 t165 true _ A5.out).mono ?_);rintro e w12 ⟨v167,rfl,ho0,hb⟩;refine ⟨_,rfl,?_⟩;have n0_:=Aside0.mk (Kd.R_elder' (by (with_reducible repeat (first|apply yH|apply yI|apply yJ));exact HO164.out) (Kd.R_base ho0) hb);have n1_:=Aside0.mk (Kd.R_lower (Kd.R_new' ho0 (Kd.R_lt (by (with_reducible repeat (first|apply yH|apply yI|apply yJ));exact HO164.out))) (yQ (by repeat (first|(with_reducible first|exact HB.out|apply yA|apply yB|apply yC|refine yD ?_ GE155.out)|exact HB.out))));have n2_:=Aside0.mk (blk_below (g:=gb155) (o:=.cells #[.slice none 0 0,.slice none 0 0] 48 (0,0)) (by (with_reducible repeat (first|refine yE ?_ _|refine yF ?_|refine yG ?_ _));exact BK155.out) hb);have n3_:=Aside0.mk (yP (by repeat (first|(with_reducible first|exact HB.out|apply yA|apply yB|apply yC|refine yD ?_ GE155.out)|exact HB.out)) hb);clear HO164;clear BK155;clear HB;have HO164:=n0_;have HO168:=n1_;have BK155:=n2_;have HB:=n3_;clear n0_ n1_ n2_ n3_;(try clear hb);(try clear hb2);(try clear hk);(try clear hi);(try clear ho0);obtain ⟨Ao13,co13,eo13⟩:=Kd.R_slice HO168.out;subst eo13;obtain ⟨Ao14,co14,eo14⟩:=Kd.R_slice HO164.out;subst eo14;have hcz15_0:w12.cell? ⟨gb155,0,none⟩=some (.slice none 0 0):=(blk_cell BK155.out 0).trans rfl;have hcz15_1:w12.cell? ⟨gb155,1,none⟩=some (.slice none 0 0):=(blk_cell BK155.out 1).trans rfl;have hfz15_0:=blk_frozen BK155.out 0;have hfz15_1:=blk_frozen BK155.out 1))
     refine bodyPost_ret (results_ct rfl _ _ gb155 48 #[.slice Ao14 t161.length co14,.slice Ao13 t165.length co13] (0,0) _ rfl (by (with_reducible repeat (first|refine yE ?_ _|refine yF ?_|refine yG ?_ _));refine blk_put (cs:=#[.slice Ao14 t161.length co14,.slice none 0 0]) ?_ 1 _ rfl;(with_reducible repeat (first|refine yE ?_ _|refine yF ?_|refine yG ?_ _));refine blk_put (cs:=#[.slice none 0 0,.slice none 0 0]) ?_ 0 _ rfl;(with_reducible repeat (first|refine yE ?_ _|refine yF ?_|refine yG ?_ _));exact BK155.out) Try.underlying48 rfl (by kernel_rfl)) rfl ?_
     exact ⟨_,_,by first|rfl|(simp [errW_none,errW_some]<;>rfl)|(simp [*,errW_none,errW_some]<;>rfl)|(simp [errW_none,errW_some];exact ⟨rfl,rfl⟩),by (with_reducible repeat (first|apply yH|apply yI|apply yJ));exact Kd.R_mono (Kd.R_far (p:=⟨gb155,1,none⟩) (Kd.R_far (p:=⟨gb155,0,none⟩) (Kd.R_types HO164.out BK155.out (by decide)) (fun _ hk=>hk.2) (.slice Ao14 t161.length co14)) (fun _ hk=>hk.2) (.slice Ao13 t165.length co13)) (fun _ hk=>hk.1.2),by (with_reducible repeat (first|apply yH|apply yI|apply yJ));exact Kd.R_mono (Kd.R_far (p:=⟨gb155,1,none⟩) (Kd.R_far (p:=⟨gb155,0,none⟩) (Kd.R_types HO168.out BK155.out (by decide)) (fun _ hk=>hk.2) (.slice Ao14 t161.length co14)) (fun _ hk=>hk.2) (.slice Ao13 t165.length co13)) (fun _ hk=>hk.1.2),by repeat (first|(with_reducible first|exact HB.out|apply yA|apply yB|apply yC|refine yD ?_ GE155.out)|exact HB.out)⟩
    ·replace c9:=Bool.eq_false_iff.mpr c9
     subst c9
     have H1:(some (t161,t165,false))=some (r1,r2,r3):=by rw [if_neg (show ¬ (false=true) by decide)] at H;exact H
     clear H
     have H:=H1
     clear H1
     simp only [Option.some.injEq,Prod.mk.injEq] at H
     obtain ⟨rfl,rfl,rfl⟩:=H
     go_enter Try.func30,Try.ntmps30
     go_wp2_with (first|((with_reducible refine gate_dst (N:=2) rfl ?_);(try (refine gate_guard (by rfl) ?_;dsimp only));refine box_event ?hg (N:=2) ?hd (cs:=#[.slice none 0 0,.slice none 0 0]) (t:=48) ?hr ?_;(case hd=>rfl);(case hg=>rfl);(case hr=>first|(go_simp;done)|(go_simp;rfl));intro gb155 hg w16 hbox hb;have n0_:=Aside0.mk (yP (by repeat (first|(with_reducible first|exact HB.out|apply yA|apply yB|apply yC)|exact HB.out)) hb);have n1_:=Aside0.mk (hbox);have n2_:=Aside0.mk ((by rw [hg];exact (yQ (by repeat (first|(with_reducible first|exact HB.out|apply yA|apply yB|apply yC)|exact HB.out))):w.heap.size≤gb155));have n3_:=Aside0.mk ((by rw [hg];exact (yQ (by repeat (first|(with_reducible first|exact HB.out|apply yA|apply yB|apply yC)|exact HB.out))):w.heap.size≤gb155));clear HB;have HB:=n0_;have BK155:=n1_;have GW155:=n2_;have GE155:=n3_;clear n0_ n1_ n2_ n3_;clear hb hbox hg)|((with_reducible refine gate_callee (f:=55) rfl ?_);refine goesL_ (some 15) rfl rfl Try.func55 (by kernel_rfl) rfl #[.string a0,.string (⟨#[40]⟩:ByteArray)] rfl (by (try simp only [List.map_toArray,List.map_cons,List.map_nil]);first|done|rfl|(simp only [List.length_drop,List.length_take];rfl)) ?_;(with_reducible refine (strings_Cut.calls a0 (⟨#[40]⟩:ByteArray) t156 t157 true _ A2.out).mono ?_);rintro e w' ⟨rfl,⟨nd,rfl⟩⟩;refine ⟨_,rfl,?_⟩;(try (rw [drewN_self w16];generalize hq_:World.drewN w16 _=w16;have n0_:Aside0 (w16.heap[gb155]?=some (.cells #[.slice none 0 0,.slice none 0 0] 48 (0,0))):=⟨by rw [← hq_];exact (by (with_reducible repeat (first|refine yE ?_ _|refine yF ?_|refine yG ?_ _));exact BK155.out)⟩;have n1_:Aside0 (Below w.heap.size w w16):=⟨by rw [← hq_];exact (by repeat (first|(with_reducible first|exact HB.out|apply yA|apply yB|apply yC|refine yD ?_ GE155.out)|exact HB.out))⟩;clear BK155 HB hq_;have BK155:=n0_;have HB:=n1_;clear n0_ n1_)))|((with_reducible refine gate_callee (f:=56) rfl ?_);refine goesL_ (some 21) rfl rfl Try.func56 (by kernel_rfl) rfl #[.string t157,.string (⟨#[41]⟩:ByteArray)] rfl (by (try simp only [List.map_toArray,List.map_cons,List.map_nil]);first|done|rfl|(simp only [List.length_drop,List.length_take];rfl)) ?_;(with_reducible refine (strings_CutSuffix.calls t157 (⟨#[41]⟩:ByteArray) t159 true _ A3.out).mono ?_);rintro e w' ⟨rfl,⟨nd,rfl⟩⟩;refine ⟨_,rfl,?_⟩;(try (rw [drewN_self w16];generalize hq_:World.drewN w16 _=w16;have n0_:Aside0 (w16.heap[gb155]?=some (.cells #[.slice none 0 0,.slice none 0 0] 48 (0,0))):=⟨by rw [← hq_];exact (by (with_reducible repeat (first|refine yE ?_ _|refine yF ?_|refine yG ?_ _));exact BK155.out)⟩;have n1_:Aside0 (Below w.heap.size w w16):=⟨by rw [← hq_];exact (by repeat (first|(with_reducible first|exact HB.out|apply yA|apply yB|apply yC|refine yD ?_ GE155.out)|exact HB.out))⟩;clear BK155 HB hq_;have BK155:=n0_;have HB:=n1_;clear n0_ n1_)))|((with_reducible refine gate_callee (f:=57) rfl ?_);refine goesL_ (some 26) rfl rfl Try.func57 (by kernel_rfl) rfl #[.string t156] rfl (by (try simp only [List.map_toArray,List.map_cons,List.map_nil]);first|done|rfl|(simp only [List.length_drop,List.length_take];rfl)) ?_;(with_reducible refine (impl_signs.calls k t156 t161 true _ A4.out).mono ?_);rintro e w17 ⟨v163,rfl,ho0,hb⟩;refine ⟨_,rfl,?_⟩;have n0_:=Aside0.mk (Kd.R_lower ho0 (yQ (by repeat (first|(with_reducible first|exact HB.out|apply yA|apply yB|apply yC|refine yD ?_ GE155.out)|exact HB.out))));have n1_:=Aside0.mk (blk_below (g:=gb155) (o:=.cells #[.slice none 0 0,.slice none 0 0] 48 (0,0)) (by (with_reducible repeat (first|refine yE ?_ _|refine yF ?_|refine yG ?_ _));exact BK155.out) hb);have n2_:=Aside0.mk (yP (by repeat (first|(with_reducible first|exact HB.out|apply yA|apply yB|apply yC|refine yD ?_ GE155.out)|exact HB.out)) hb);clear BK155;clear HB;have HO164:=n0_;have BK155:=n1_;have HB:=n2_;clear n0_ n1_ n2_;(try clear hb);(try clear hb2);(try clear hk);(try clear hi);(try clear ho0))|((with_reducible refine gate_callee (f:=57) rfl ?_);refine goesL_ (some 31) rfl rfl Try.func57 (by kernel_rfl) rfl #[.string t159] rfl (by (try simp only [List.map_toArray,List.map_cons,List.map_nil]);first|done|rfl|(simp only [List.length_drop,List.length_take];rfl)) ?_;(with_reducible refine (impl_signs.calls k t159 t165 false _ A5.out).mono ?_);rintro e w18 ⟨v167,rfl,ho0,hb⟩;refine ⟨_,rfl,?_⟩;have n0_:=Aside0.mk (Kd.R_elder' (by (with_reducible repeat (first|apply yH|apply yI|apply yJ));exact HO164.out) (Kd.R_base ho0) hb);have n1_:=Aside0.mk (Kd.R_lower (Kd.R_new' ho0 (Kd.R_lt (by (with_reducible repeat (first|apply yH|apply yI|apply yJ));exact HO164.out))) (yQ (by repeat (first|(with_reducible first|exact HB.out|apply yA|apply yB|apply yC|refine yD ?_ GE155.out)|exact HB.out))));have n2_:=Aside0.mk (blk_below (g:=gb155) (o:=.cells #[.slice none 0 0,.slice none 0 0] 48 (0,0)) (by (with_reducible repeat (first|refine yE ?_ _|refine yF ?_|refine yG ?_ _));exact BK155.out) hb);have n3_:=Aside0.mk (yP (by repeat (first|(with_reducible first|exact HB.out|apply yA|apply yB|apply yC|refine yD ?_ GE155.out)|exact HB.out)) hb);clear HO164;clear BK155;clear HB;have HO164:=n0_;have HO168:=n1_;have BK155:=n2_;have HB:=n3_;clear n0_ n1_ n2_ n3_;(try clear hb);(try clear hb2);(try clear hk);(try clear hi);(try clear ho0);obtain ⟨Ao19,co19,eo19⟩:=Kd.R_slice HO168.out;subst eo19;obtain ⟨Ao20,co20,eo20⟩:=Kd.R_slice HO164.out;subst eo20;have hcz21_0:w18.cell? ⟨gb155,0,none⟩=some (.slice none 0 0):=(blk_cell BK155.out 0).trans rfl;have hcz21_1:w18.cell? ⟨gb155,1,none⟩=some (.slice none 0 0):=(blk_cell BK155.out 1).trans rfl;have hfz21_0:=blk_frozen BK155.out 0;have hfz21_1:=blk_frozen BK155.out 1))
     refine bodyPost_ret (results_ct rfl _ _ gb155 48 #[.slice Ao20 t161.length co20,.slice Ao19 t165.length co19] (0,0) _ rfl (by (with_reducible repeat (first|refine yE ?_ _|refine yF ?_|refine yG ?_ _));refine blk_put (cs:=#[.slice Ao20 t161.length co20,.slice none 0 0]) ?_ 1 _ rfl;(with_reducible repeat (first|refine yE ?_ _|refine yF ?_|refine yG ?_ _));refine blk_put (cs:=#[.slice none 0 0,.slice none 0 0]) ?_ 0 _ rfl;(with_reducible repeat (first|refine yE ?_ _|refine yF ?_|refine yG ?_ _));exact BK155.out) Try.underlying48 rfl (by kernel_rfl)) rfl ?_
     exact ⟨_,_,by first|rfl|(simp [errW_none,errW_some]<;>rfl)|(simp [*,errW_none,errW_some]<;>rfl)|(simp [errW_none,errW_some];exact ⟨rfl,rfl⟩),by (with_reducible repeat (first|apply yH|apply yI|apply yJ));exact Kd.R_mono (Kd.R_far (p:=⟨gb155,1,none⟩) (Kd.R_far (p:=⟨gb155,0,none⟩) (Kd.R_types HO164.out BK155.out (by decide)) (fun _ hk=>hk.2) (.slice Ao20 t161.length co20)) (fun _ hk=>hk.2) (.slice Ao19 t165.length co19)) (fun _ hk=>hk.1.2),by (with_reducible repeat (first|apply yH|apply yI|apply yJ));exact Kd.R_mono (Kd.R_far (p:=⟨gb155,1,none⟩) (Kd.R_far (p:=⟨gb155,0,none⟩) (Kd.R_types HO168.out BK155.out (by decide)) (fun _ hk=>hk.2) (.slice Ao20 t161.length co20)) (fun _ hk=>hk.2) (.slice Ao19 t165.length co19)) (fun _ hk=>hk.1.2),by repeat (first|(with_reducible first|exact HB.out|apply yA|apply yB|apply yC|refine yD ?_ GE155.out)|exact HB.out)⟩
   ·replace c8:=Bool.eq_false_iff.mpr c8
    subst c8
    have H1:(some (t161,t165,false))=some (r1,r2,r3):=by rw [if_neg (show ¬ (false=true) by decide)] at H;exact H
    clear H
    have H:=H1
    clear H1
    simp only [Option.some.injEq,Prod.mk.injEq] at H
    obtain ⟨rfl,rfl,rfl⟩:=H
    go_enter Try.func30,Try.ntmps30
    go_wp2_with (first|((with_reducible refine gate_dst (N:=2) rfl ?_);(try (refine gate_guard (by rfl) ?_;dsimp only));refine box_event ?hg (N:=2) ?hd (cs:=#[.slice none 0 0,.slice none 0 0]) (t:=48) ?hr ?_;(case hd=>rfl);(case hg=>rfl);(case hr=>first|(go_simp;done)|(go_simp;rfl));intro gb155 hg w22 hbox hb;have n0_:=Aside0.mk (yP (by repeat (first|(with_reducible first|exact HB.out|apply yA|apply yB|apply yC)|exact HB.out)) hb);have n1_:=Aside0.mk (hbox);have n2_:=Aside0.mk ((by rw [hg];exact (yQ (by repeat (first|(with_reducible first|exact HB.out|apply yA|apply yB|apply yC)|exact HB.out))):w.heap.size≤gb155));have n3_:=Aside0.mk ((by rw [hg];exact (yQ (by repeat (first|(with_reducible first|exact HB.out|apply yA|apply yB|apply yC)|exact HB.out))):w.heap.size≤gb155));clear HB;have HB:=n0_;have BK155:=n1_;have GW155:=n2_;have GE155:=n3_;clear n0_ n1_ n2_ n3_;clear hb hbox hg)|((with_reducible refine gate_callee (f:=55) rfl ?_);refine goesL_ (some 15) rfl rfl Try.func55 (by kernel_rfl) rfl #[.string a0,.string (⟨#[40]⟩:ByteArray)] rfl (by (try simp only [List.map_toArray,List.map_cons,List.map_nil]);first|done|rfl|(simp only [List.length_drop,List.length_take];rfl)) ?_;(with_reducible refine (strings_Cut.calls a0 (⟨#[40]⟩:ByteArray) t156 t157 true _ A2.out).mono ?_);rintro e w' ⟨rfl,⟨nd,rfl⟩⟩;refine ⟨_,rfl,?_⟩;(try (rw [drewN_self w22];generalize hq_:World.drewN w22 _=w22;have n0_:Aside0 (w22.heap[gb155]?=some (.cells #[.slice none 0 0,.slice none 0 0] 48 (0,0))):=⟨by rw [← hq_];exact (by (with_reducible repeat (first|refine yE ?_ _|refine yF ?_|refine yG ?_ _));exact BK155.out)⟩;have n1_:Aside0 (Below w.heap.size w w22):=⟨by rw [← hq_];exact (by repeat (first|(with_reducible first|exact HB.out|apply yA|apply yB|apply yC|refine yD ?_ GE155.out)|exact HB.out))⟩;clear BK155 HB hq_;have BK155:=n0_;have HB:=n1_;clear n0_ n1_)))|((with_reducible refine gate_callee (f:=56) rfl ?_);refine goesL_ (some 21) rfl rfl Try.func56 (by kernel_rfl) rfl #[.string t157,.string (⟨#[41]⟩:ByteArray)] rfl (by (try simp only [List.map_toArray,List.map_cons,List.map_nil]);first|done|rfl|(simp only [List.length_drop,List.length_take];rfl)) ?_;(with_reducible refine (strings_CutSuffix.calls t157 (⟨#[41]⟩:ByteArray) t159 true _ A3.out).mono ?_);rintro e w' ⟨rfl,⟨nd,rfl⟩⟩;refine ⟨_,rfl,?_⟩;(try (rw [drewN_self w22];generalize hq_:World.drewN w22 _=w22;have n0_:Aside0 (w22.heap[gb155]?=some (.cells #[.slice none 0 0,.slice none 0 0] 48 (0,0))):=⟨by rw [← hq_];exact (by (with_reducible repeat (first|refine yE ?_ _|refine yF ?_|refine yG ?_ _));exact BK155.out)⟩;have n1_:Aside0 (Below w.heap.size w w22):=⟨by rw [← hq_];exact (by repeat (first|(with_reducible first|exact HB.out|apply yA|apply yB|apply yC|refine yD ?_ GE155.out)|exact HB.out))⟩;clear BK155 HB hq_;have BK155:=n0_;have HB:=n1_;clear n0_ n1_)))|((with_reducible refine gate_callee (f:=57) rfl ?_);refine goesL_ (some 26) rfl rfl Try.func57 (by kernel_rfl) rfl #[.string t156] rfl (by (try simp only [List.map_toArray,List.map_cons,List.map_nil]);first|done|rfl|(simp only [List.length_drop,List.length_take];rfl)) ?_;(with_reducible refine (impl_signs.calls k t156 t161 false _ A4.out).mono ?_);rintro e w23 ⟨v163,rfl,ho0,hb⟩;refine ⟨_,rfl,?_⟩;have n0_:=Aside0.mk (Kd.R_lower ho0 (yQ (by repeat (first|(with_reducible first|exact HB.out|apply yA|apply yB|apply yC|refine yD ?_ GE155.out)|exact HB.out))));have n1_:=Aside0.mk (blk_below (g:=gb155) (o:=.cells #[.slice none 0 0,.slice none 0 0] 48 (0,0)) (by (with_reducible repeat (first|refine yE ?_ _|refine yF ?_|refine yG ?_ _));exact BK155.out) hb);have n2_:=Aside0.mk (yP (by repeat (first|(with_reducible first|exact HB.out|apply yA|apply yB|apply yC|refine yD ?_ GE155.out)|exact HB.out)) hb);clear BK155;clear HB;have HO164:=n0_;have BK155:=n1_;have HB:=n2_;clear n0_ n1_ n2_;(try clear hb);(try clear hb2);(try clear hk);(try clear hi);(try clear ho0))|((with_reducible refine gate_callee (f:=57) rfl ?_);refine goesL_ (some 31) rfl rfl Try.func57 (by kernel_rfl) rfl #[.string t159] rfl (by (try simp only [List.map_toArray,List.map_cons,List.map_nil]);first|done|rfl|(simp only [List.length_drop,List.length_take];rfl)) ?_;(with_reducible refine (impl_signs.calls k t159 t165 t166 _ A5.out).mono ?_);rintro e w24 ⟨v167,rfl,ho0,hb⟩;refine ⟨_,rfl,?_⟩;have n0_:=Aside0.mk (Kd.R_elder' (by (with_reducible repeat (first|apply yH|apply yI|apply yJ));exact HO164.out) (Kd.R_base ho0) hb);have n1_:=Aside0.mk (Kd.R_lower (Kd.R_new' ho0 (Kd.R_lt (by (with_reducible repeat (first|apply yH|apply yI|apply yJ));exact HO164.out))) (yQ (by repeat (first|(with_reducible first|exact HB.out|apply yA|apply yB|apply yC|refine yD ?_ GE155.out)|exact HB.out))));have n2_:=Aside0.mk (blk_below (g:=gb155) (o:=.cells #[.slice none 0 0,.slice none 0 0] 48 (0,0)) (by (with_reducible repeat (first|refine yE ?_ _|refine yF ?_|refine yG ?_ _));exact BK155.out) hb);have n3_:=Aside0.mk (yP (by repeat (first|(with_reducible first|exact HB.out|apply yA|apply yB|apply yC|refine yD ?_ GE155.out)|exact HB.out)) hb);clear HO164;clear BK155;clear HB;have HO164:=n0_;have HO168:=n1_;have BK155:=n2_;have HB:=n3_;clear n0_ n1_ n2_ n3_;(try clear hb);(try clear hb2);(try clear hk);(try clear hi);(try clear ho0);obtain ⟨Ao25,co25,eo25⟩:=Kd.R_slice HO168.out;subst eo25;obtain ⟨Ao26,co26,eo26⟩:=Kd.R_slice HO164.out;subst eo26;have hcz27_0:w24.cell? ⟨gb155,0,none⟩=some (.slice none 0 0):=(blk_cell BK155.out 0).trans rfl;have hcz27_1:w24.cell? ⟨gb155,1,none⟩=some (.slice none 0 0):=(blk_cell BK155.out 1).trans rfl;have hfz27_0:=blk_frozen BK155.out 0;have hfz27_1:=blk_frozen BK155.out 1))
    refine bodyPost_ret (results_ct rfl _ _ gb155 48 #[.slice Ao26 t161.length co26,.slice Ao25 t165.length co25] (0,0) _ rfl (by (with_reducible repeat (first|refine yE ?_ _|refine yF ?_|refine yG ?_ _));refine blk_put (cs:=#[.slice Ao26 t161.length co26,.slice none 0 0]) ?_ 1 _ rfl;(with_reducible repeat (first|refine yE ?_ _|refine yF ?_|refine yG ?_ _));refine blk_put (cs:=#[.slice none 0 0,.slice none 0 0]) ?_ 0 _ rfl;(with_reducible repeat (first|refine yE ?_ _|refine yF ?_|refine yG ?_ _));exact BK155.out) Try.underlying48 rfl (by kernel_rfl)) rfl ?_
    exact ⟨_,_,by first|rfl|(simp [errW_none,errW_some]<;>rfl)|(simp [*,errW_none,errW_some]<;>rfl)|(simp [errW_none,errW_some];exact ⟨rfl,rfl⟩),by (with_reducible repeat (first|apply yH|apply yI|apply yJ));exact Kd.R_mono (Kd.R_far (p:=⟨gb155,1,none⟩) (Kd.R_far (p:=⟨gb155,0,none⟩) (Kd.R_types HO164.out BK155.out (by decide)) (fun _ hk=>hk.2) (.slice Ao26 t161.length co26)) (fun _ hk=>hk.2) (.slice Ao25 t165.length co25)) (fun _ hk=>hk.1.2),by (with_reducible repeat (first|apply yH|apply yI|apply yJ));exact Kd.R_mono (Kd.R_far (p:=⟨gb155,1,none⟩) (Kd.R_far (p:=⟨gb155,0,none⟩) (Kd.R_types HO168.out BK155.out (by decide)) (fun _ hk=>hk.2) (.slice Ao26 t161.length co26)) (fun _ hk=>hk.2) (.slice Ao25 t165.length co25)) (fun _ hk=>hk.1.2),by repeat (first|(with_reducible first|exact HB.out|apply yA|apply yB|apply yC|refine yD ?_ GE155.out)|exact HB.out)⟩
  ·replace c7:=Bool.eq_false_iff.mpr c7
   subst c7
   have H1:(some (t161,t165,false))=some (r1,r2,r3):=by rw [if_neg (show ¬ (false=true) by decide)] at H;exact H
   clear H
   have H:=H1
   clear H1
   simp only [Option.some.injEq,Prod.mk.injEq] at H
   obtain ⟨rfl,rfl,rfl⟩:=H
   go_enter Try.func30,Try.ntmps30
   go_wp2_with (first|((with_reducible refine gate_dst (N:=2) rfl ?_);(try (refine gate_guard (by rfl) ?_;dsimp only));refine box_event ?hg (N:=2) ?hd (cs:=#[.slice none 0 0,.slice none 0 0]) (t:=48) ?hr ?_;(case hd=>rfl);(case hg=>rfl);(case hr=>first|(go_simp;done)|(go_simp;rfl));intro gb155 hg w28 hbox hb;have n0_:=Aside0.mk (yP (by repeat (first|(with_reducible first|exact HB.out|apply yA|apply yB|apply yC)|exact HB.out)) hb);have n1_:=Aside0.mk (hbox);have n2_:=Aside0.mk ((by rw [hg];exact (yQ (by repeat (first|(with_reducible first|exact HB.out|apply yA|apply yB|apply yC)|exact HB.out))):w.heap.size≤gb155));have n3_:=Aside0.mk ((by rw [hg];exact (yQ (by repeat (first|(with_reducible first|exact HB.out|apply yA|apply yB|apply yC)|exact HB.out))):w.heap.size≤gb155));clear HB;have HB:=n0_;have BK155:=n1_;have GW155:=n2_;have GE155:=n3_;clear n0_ n1_ n2_ n3_;clear hb hbox hg)|((with_reducible refine gate_callee (f:=55) rfl ?_);refine goesL_ (some 15) rfl rfl Try.func55 (by kernel_rfl) rfl #[.string a0,.string (⟨#[40]⟩:ByteArray)] rfl (by (try simp only [List.map_toArray,List.map_cons,List.map_nil]);first|done|rfl|(simp only [List.length_drop,List.length_take];rfl)) ?_;(with_reducible refine (strings_Cut.calls a0 (⟨#[40]⟩:ByteArray) t156 t157 true _ A2.out).mono ?_);rintro e w' ⟨rfl,⟨nd,rfl⟩⟩;refine ⟨_,rfl,?_⟩;(try (rw [drewN_self w28];generalize hq_:World.drewN w28 _=w28;have n0_:Aside0 (w28.heap[gb155]?=some (.cells #[.slice none 0 0,.slice none 0 0] 48 (0,0))):=⟨by rw [← hq_];exact (by (with_reducible repeat (first|refine yE ?_ _|refine yF ?_|refine yG ?_ _));exact BK155.out)⟩;have n1_:Aside0 (Below w.heap.size w w28):=⟨by rw [← hq_];exact (by repeat (first|(with_reducible first|exact HB.out|apply yA|apply yB|apply yC|refine yD ?_ GE155.out)|exact HB.out))⟩;clear BK155 HB hq_;have BK155:=n0_;have HB:=n1_;clear n0_ n1_)))|((with_reducible refine gate_callee (f:=56) rfl ?_);refine goesL_ (some 21) rfl rfl Try.func56 (by kernel_rfl) rfl #[.string t157,.string (⟨#[41]⟩:ByteArray)] rfl (by (try simp only [List.map_toArray,List.map_cons,List.map_nil]);first|done|rfl|(simp only [List.length_drop,List.length_take];rfl)) ?_;(with_reducible refine (strings_CutSuffix.calls t157 (⟨#[41]⟩:ByteArray) t159 false _ A3.out).mono ?_);rintro e w' ⟨rfl,⟨nd,rfl⟩⟩;refine ⟨_,rfl,?_⟩;(try (rw [drewN_self w28];generalize hq_:World.drewN w28 _=w28;have n0_:Aside0 (w28.heap[gb155]?=some (.cells #[.slice none 0 0,.slice none 0 0] 48 (0,0))):=⟨by rw [← hq_];exact (by (with_reducible repeat (first|refine yE ?_ _|refine yF ?_|refine yG ?_ _));exact BK155.out)⟩;have n1_:Aside0 (Below w.heap.size w w28):=⟨by rw [← hq_];exact (by repeat (first|(with_reducible first|exact HB.out|apply yA|apply yB|apply yC|refine yD ?_ GE155.out)|exact HB.out))⟩;clear BK155 HB hq_;have BK155:=n0_;have HB:=n1_;clear n0_ n1_)))|((with_reducible refine gate_callee (f:=57) rfl ?_);refine goesL_ (some 26) rfl rfl Try.func57 (by kernel_rfl) rfl #[.string t156] rfl (by (try simp only [List.map_toArray,List.map_cons,List.map_nil]);first|done|rfl|(simp only [List.length_drop,List.length_take];rfl)) ?_;(with_reducible refine (impl_signs.calls k t156 t161 t162 _ A4.out).mono ?_);rintro e w29 ⟨v163,rfl,ho0,hb⟩;refine ⟨_,rfl,?_⟩;have n0_:=Aside0.mk (Kd.R_lower ho0 (yQ (by repeat (first|(with_reducible first|exact HB.out|apply yA|apply yB|apply yC|refine yD ?_ GE155.out)|exact HB.out))));have n1_:=Aside0.mk (blk_below (g:=gb155) (o:=.cells #[.slice none 0 0,.slice none 0 0] 48 (0,0)) (by (with_reducible repeat (first|refine yE ?_ _|refine yF ?_|refine yG ?_ _));exact BK155.out) hb);have n2_:=Aside0.mk (yP (by repeat (first|(with_reducible first|exact HB.out|apply yA|apply yB|apply yC|refine yD ?_ GE155.out)|exact HB.out)) hb);clear BK155;clear HB;have HO164:=n0_;have BK155:=n1_;have HB:=n2_;clear n0_ n1_ n2_;(try clear hb);(try clear hb2);(try clear hk);(try clear hi);(try clear ho0))|((with_reducible refine gate_callee (f:=57) rfl ?_);refine goesL_ (some 31) rfl rfl Try.func57 (by kernel_rfl) rfl #[.string t159] rfl (by (try simp only [List.map_toArray,List.map_cons,List.map_nil]);first|done|rfl|(simp only [List.length_drop,List.length_take];rfl)) ?_;(with_reducible refine (impl_signs.calls k t159 t165 t166 _ A5.out).mono ?_);rintro e w30 ⟨v167,rfl,ho0,hb⟩;refine ⟨_,rfl,?_⟩;have n0_:=Aside0.mk (Kd.R_elder' (by (with_reducible repeat (first|apply yH|apply yI|apply yJ));exact HO164.out) (Kd.R_base ho0) hb);have n1_:=Aside0.mk (Kd.R_lower (Kd.R_new' ho0 (Kd.R_lt (by (with_reducible repeat (first|apply yH|apply yI|apply yJ));exact HO164.out))) (yQ (by repeat (first|(with_reducible first|exact HB.out|apply yA|apply yB|apply yC|refine yD ?_ GE155.out)|exact HB.out))));have n2_:=Aside0.mk (blk_below (g:=gb155) (o:=.cells #[.slice none 0 0,.slice none 0 0] 48 (0,0)) (by (with_reducible repeat (first|refine yE ?_ _|refine yF ?_|refine yG ?_ _));exact BK155.out) hb);have n3_:=Aside0.mk (yP (by repeat (first|(with_reducible first|exact HB.out|apply yA|apply yB|apply yC|refine yD ?_ GE155.out)|exact HB.out)) hb);clear HO164;clear BK155;clear HB;have HO164:=n0_;have HO168:=n1_;have BK155:=n2_;have HB:=n3_;clear n0_ n1_ n2_ n3_;(try clear hb);(try clear hb2);(try clear hk);(try clear hi);(try clear ho0);obtain ⟨Ao31,co31,eo31⟩:=Kd.R_slice HO168.out;subst eo31;obtain ⟨Ao32,co32,eo32⟩:=Kd.R_slice HO164.out;subst eo32;have hcz33_0:w30.cell? ⟨gb155,0,none⟩=some (.slice none 0 0):=(blk_cell BK155.out 0).trans rfl;have hcz33_1:w30.cell? ⟨gb155,1,none⟩=some (.slice none 0 0):=(blk_cell BK155.out 1).trans rfl;have hfz33_0:=blk_frozen BK155.out 0;have hfz33_1:=blk_frozen BK155.out 1))
   refine bodyPost_ret (results_ct rfl _ _ gb155 48 #[.slice Ao32 t161.length co32,.slice Ao31 t165.length co31] (0,0) _ rfl (by (with_reducible repeat (first|refine yE ?_ _|refine yF ?_|refine yG ?_ _));refine blk_put (cs:=#[.slice Ao32 t161.length co32,.slice none 0 0]) ?_ 1 _ rfl;(with_reducible repeat (first|refine yE ?_ _|refine yF ?_|refine yG ?_ _));refine blk_put (cs:=#[.slice none 0 0,.slice none 0 0]) ?_ 0 _ rfl;(with_reducible repeat (first|refine yE ?_ _|refine yF ?_|refine yG ?_ _));exact BK155.out) Try.underlying48 rfl (by kernel_rfl)) rfl ?_
   exact ⟨_,_,by first|rfl|(simp [errW_none,errW_some]<;>rfl)|(simp [*,errW_none,errW_some]<;>rfl)|(simp [errW_none,errW_some];exact ⟨rfl,rfl⟩),by (with_reducible repeat (first|apply yH|apply yI|apply yJ));exact Kd.R_mono (Kd.R_far (p:=⟨gb155,1,none⟩) (Kd.R_far (p:=⟨gb155,0,none⟩) (Kd.R_types HO164.out BK155.out (by decide)) (fun _ hk=>hk.2) (.slice Ao32 t161.length co32)) (fun _ hk=>hk.2) (.slice Ao31 t165.length co31)) (fun _ hk=>hk.1.2),by (with_reducible repeat (first|apply yH|apply yI|apply yJ));exact Kd.R_mono (Kd.R_far (p:=⟨gb155,1,none⟩) (Kd.R_far (p:=⟨gb155,0,none⟩) (Kd.R_types HO168.out BK155.out (by decide)) (fun _ hk=>hk.2) (.slice Ao32 t161.length co32)) (fun _ hk=>hk.2) (.slice Ao31 t165.length co31)) (fun _ hk=>hk.1.2),by repeat (first|(with_reducible first|exact HB.out|apply yA|apply yB|apply yC|refine yD ?_ GE155.out)|exact HB.out)⟩
 ·replace c6:=Bool.eq_false_iff.mpr c6
  subst c6
  have H1:(some (t161,t165,false))=some (r1,r2,r3):=by rw [if_neg (show ¬ (false=true) by decide)] at H;exact H
  clear H
  have H:=H1
  clear H1
  simp only [Option.some.injEq,Prod.mk.injEq] at H
  obtain ⟨rfl,rfl,rfl⟩:=H
  go_enter Try.func30,Try.ntmps30
  go_wp2_with (first|((with_reducible refine gate_dst (N:=2) rfl ?_);(try (refine gate_guard (by rfl) ?_;dsimp only));refine box_event ?hg (N:=2) ?hd (cs:=#[.slice none 0 0,.slice none 0 0]) (t:=48) ?hr ?_;(case hd=>rfl);(case hg=>rfl);(case hr=>first|(go_simp;done)|(go_simp;rfl));intro gb155 hg w34 hbox hb;have n0_:=Aside0.mk (yP (by repeat (first|(with_reducible first|exact HB.out|apply yA|apply yB|apply yC)|exact HB.out)) hb);have n1_:=Aside0.mk (hbox);have n2_:=Aside0.mk ((by rw [hg];exact (yQ (by repeat (first|(with_reducible first|exact HB.out|apply yA|apply yB|apply yC)|exact HB.out))):w.heap.size≤gb155));have n3_:=Aside0.mk ((by rw [hg];exact (yQ (by repeat (first|(with_reducible first|exact HB.out|apply yA|apply yB|apply yC)|exact HB.out))):w.heap.size≤gb155));clear HB;have HB:=n0_;have BK155:=n1_;have GW155:=n2_;have GE155:=n3_;clear n0_ n1_ n2_ n3_;clear hb hbox hg)|((with_reducible refine gate_callee (f:=55) rfl ?_);refine goesL_ (some 15) rfl rfl Try.func55 (by kernel_rfl) rfl #[.string a0,.string (⟨#[40]⟩:ByteArray)] rfl (by (try simp only [List.map_toArray,List.map_cons,List.map_nil]);first|done|rfl|(simp only [List.length_drop,List.length_take];rfl)) ?_;(with_reducible refine (strings_Cut.calls a0 (⟨#[40]⟩:ByteArray) t156 t157 false _ A2.out).mono ?_);rintro e w' ⟨rfl,⟨nd,rfl⟩⟩;refine ⟨_,rfl,?_⟩;(try (rw [drewN_self w34];generalize hq_:World.drewN w34 _=w34;have n0_:Aside0 (w34.heap[gb155]?=some (.cells #[.slice none 0 0,.slice none 0 0] 48 (0,0))):=⟨by rw [← hq_];exact (by (with_reducible repeat (first|refine yE ?_ _|refine yF ?_|refine yG ?_ _));exact BK155.out)⟩;have n1_:Aside0 (Below w.heap.size w w34):=⟨by rw [← hq_];exact (by repeat (first|(with_reducible first|exact HB.out|apply yA|apply yB|apply yC|refine yD ?_ GE155.out)|exact HB.out))⟩;clear BK155 HB hq_;have BK155:=n0_;have HB:=n1_;clear n0_ n1_)))|((with_reducible refine gate_callee (f:=56) rfl ?_);refine goesL_ (some 21) rfl rfl Try.func56 (by kernel_rfl) rfl #[.string t157,.string (⟨#[41]⟩:ByteArray)] rfl (by (try simp only [List.map_toArray,List.map_cons,List.map_nil]);first|done|rfl|(simp only [List.length_drop,List.length_take];rfl)) ?_;(with_reducible refine (strings_CutSuffix.calls t157 (⟨#[41]⟩:ByteArray) t159 t160 _ A3.out).mono ?_);rintro e w' ⟨rfl,⟨nd,rfl⟩⟩;refine ⟨_,rfl,?_⟩;(try (rw [drewN_self w34];generalize hq_:World.drewN w34 _=w34;have n0_:Aside0 (w34.heap[gb155]?=some (.cells #[.slice none 0 0,.slice none 0 0] 48 (0,0))):=⟨by rw [← hq_];exact (by (with_reducible repeat (first|refine yE ?_ _|refine yF ?_|refine yG ?_ _));exact BK155.out)⟩;have n1_:Aside0 (Below w.heap.size w w34):=⟨by rw [← hq_];exact (by repeat (first|(with_reducible first|exact HB.out|apply yA|apply yB|apply yC|refine yD ?_ GE155.out)|exact HB.out))⟩;clear BK155 HB hq_;have BK155:=n0_;have HB:=n1_;clear n0_ n1_)))|((with_reducible refine gate_callee (f:=57) rfl ?_);refine goesL_ (some 26) rfl rfl Try.func57 (by kernel_rfl) rfl #[.string t156] rfl (by (try simp only [List.map_toArray,List.map_cons,List.map_nil]);first|done|rfl|(simp only [List.length_drop,List.length_take];rfl)) ?_;(with_reducible refine (impl_signs.calls k t156 t161 t162 _ A4.out).mono ?_);rintro e w35 ⟨v163,rfl,ho0,hb⟩;refine ⟨_,rfl,?_⟩;have n0_:=Aside0.mk (Kd.R_lower ho0 (yQ (by repeat (first|(with_reducible first|exact HB.out|apply yA|apply yB|apply yC|refine yD ?_ GE155.out)|exact HB.out))));have n1_:=Aside0.mk (blk_below (g:=gb155) (o:=.cells #[.slice none 0 0,.slice none 0 0] 48 (0,0)) (by (with_reducible repeat (first|refine yE ?_ _|refine yF ?_|refine yG ?_ _));exact BK155.out) hb);have n2_:=Aside0.mk (yP (by repeat (first|(with_reducible first|exact HB.out|apply yA|apply yB|apply yC|refine yD ?_ GE155.out)|exact HB.out)) hb);clear BK155;clear HB;have HO164:=n0_;have BK155:=n1_;have HB:=n2_;clear n0_ n1_ n2_;(try clear hb);(try clear hb2);(try clear hk);(try clear hi);(try clear ho0))|((with_reducible refine gate_callee (f:=57) rfl ?_);refine goesL_ (some 31) rfl rfl Try.func57 (by kernel_rfl) rfl #[.string t159] rfl (by (try simp only [List.map_toArray,List.map_cons,List.map_nil]);first|done|rfl|(simp only [List.length_drop,List.length_take];rfl)) ?_;(with_reducible refine (impl_signs.calls k t159 t165 t166 _ A5.out).mono ?_);rintro e w36 ⟨v167,rfl,ho0,hb⟩;refine ⟨_,rfl,?_⟩;have n0_:=Aside0.mk (Kd.R_elder' (by (with_reducible repeat (first|apply yH|apply yI|apply yJ));exact HO164.out) (Kd.R_base ho0) hb);have n1_:=Aside0.mk (Kd.R_lower (Kd.R_new' ho0 (Kd.R_lt (by (with_reducible repeat (first|apply yH|apply yI|apply yJ));exact HO164.out))) (yQ (by repeat (first|(with_reducible first|exact HB.out|apply yA|apply yB|apply yC|refine yD ?_ GE155.out)|exact HB.out))));have n2_:=Aside0.mk (blk_below (g:=gb155) (o:=.cells #[.slice none 0 0,.slice none 0 0] 48 (0,0)) (by (with_reducible repeat (first|refine yE ?_ _|refine yF ?_|refine yG ?_ _));exact BK155.out) hb);have n3_:=Aside0.mk (yP (by repeat (first|(with_reducible first|exact HB.out|apply yA|apply yB|apply yC|refine yD ?_ GE155.out)|exact HB.out)) hb);clear HO164;clear BK155;clear HB;have HO164:=n0_;have HO168:=n1_;have BK155:=n2_;have HB:=n3_;clear n0_ n1_ n2_ n3_;(try clear hb);(try clear hb2);(try clear hk);(try clear hi);(try clear ho0);obtain ⟨Ao37,co37,eo37⟩:=Kd.R_slice HO168.out;subst eo37;obtain ⟨Ao38,co38,eo38⟩:=Kd.R_slice HO164.out;subst eo38;have hcz39_0:w36.cell? ⟨gb155,0,none⟩=some (.slice none 0 0):=(blk_cell BK155.out 0).trans rfl;have hcz39_1:w36.cell? ⟨gb155,1,none⟩=some (.slice none 0 0):=(blk_cell BK155.out 1).trans rfl;have hfz39_0:=blk_frozen BK155.out 0;have hfz39_1:=blk_frozen BK155.out 1))
  refine bodyPost_ret (results_ct rfl _ _ gb155 48 #[.slice Ao38 t161.length co38,.slice Ao37 t165.length co37] (0,0) _ rfl (by (with_reducible repeat (first|refine yE ?_ _|refine yF ?_|refine yG ?_ _));refine blk_put (cs:=#[.slice Ao38 t161.length co38,.slice none 0 0]) ?_ 1 _ rfl;(with_reducible repeat (first|refine yE ?_ _|refine yF ?_|refine yG ?_ _));refine blk_put (cs:=#[.slice none 0 0,.slice none 0 0]) ?_ 0 _ rfl;(with_reducible repeat (first|refine yE ?_ _|refine yF ?_|refine yG ?_ _));exact BK155.out) Try.underlying48 rfl (by kernel_rfl)) rfl ?_
  exact ⟨_,_,by first|rfl|(simp [errW_none,errW_some]<;>rfl)|(simp [*,errW_none,errW_some]<;>rfl)|(simp [errW_none,errW_some];exact ⟨rfl,rfl⟩),by (with_reducible repeat (first|apply yH|apply yI|apply yJ));exact Kd.R_mono (Kd.R_far (p:=⟨gb155,1,none⟩) (Kd.R_far (p:=⟨gb155,0,none⟩) (Kd.R_types HO164.out BK155.out (by decide)) (fun _ hk=>hk.2) (.slice Ao38 t161.length co38)) (fun _ hk=>hk.2) (.slice Ao37 t165.length co37)) (fun _ hk=>hk.1.2),by (with_reducible repeat (first|apply yH|apply yI|apply yJ));exact Kd.R_mono (Kd.R_far (p:=⟨gb155,1,none⟩) (Kd.R_far (p:=⟨gb155,0,none⟩) (Kd.R_types HO168.out BK155.out (by decide)) (fun _ hk=>hk.2) (.slice Ao38 t161.length co38)) (fun _ hk=>hk.2) (.slice Ao37 t165.length co37)) (fun _ hk=>hk.1.2),by repeat (first|(with_reducible first|exact HB.out|apply yA|apply yB|apply yC|refine yD ?_ GE155.out)|exact HB.out)⟩

end Go.Proofs.Ytneadgionjlicaa.P

namespace Go.Proofs.Ytneadgionjlicaa.P
open Go.RowKit Go.Proofs.YtneadgionjlicaaW.PrintWords Go.Proofs.YtneadgionjlicaaW.PrintLast Go.Proofs.YtneadgionjlicaaW.PrintMore
attribute [local go_sem] max2_int min2_int max_two min_two max_three min_three max_four min_four   -- for this text's walks alone
set_option linter.unusedVariables false
set_option linter.unusedSimpArgs false

/-! ### impl_SetHas: function 11 -/
def impl_SetHas.f (k:Nat) (a0:ByteArray) (a1:Int):Option (Bool):=(impl_setOf.f k a0).bind fun bt362=>(if bt362.2.2=true then ((impl_set_has.f bt362.1 bt362.2.1 a1).bind fun t370=>(some t370)) else (some false))
theorem impl_SetHas.mono:∀ a0 a1 k,LeO (impl_SetHas.f k a0 a1) (impl_SetHas.f (k+1) a0 a1):=by
 intro a0 a1 k
 unfold impl_SetHas.f
 repeat' first
   | (with_reducible exact impl_setOf.mono _ _)
   | (with_reducible exact LeO.refl _)
   | (with_reducible exact LeO.none _)
   | (with_reducible refine LeO.ite ?_ ?_)
   | (with_reducible refine LeO.bind ?_ (fun _=>?_))
   | exact impl_setOf.mono _ _
   | exact LeO.none _
   | refine LeO.ite ?_ ?_
   | refine LeO.bind ?_ (fun _=>?_)
set_option maxHeartbeats 8000000 in
set_option maxRecDepth 100000 in
theorem impl_SetHas.calls (k:Nat) (a0:ByteArray) (a1:Int) (r:Bool) (w:World) (h:impl_SetHas.f k a0 a1=some r) :
  Calls Try.prog 11 #[.string a0,.int .i64 a1] w fun e w'=>e=.returned (.bool r)∧Below w.heap.size w w':=by
 have hu48:=Try.underlying48
 have HB:=Aside0.mk (Below.refl w.heap.size w)
 have H:((impl_setOf.f k a0).bind fun bt362=>(if bt362.2.2=true then ((impl_set_has.f bt362.1 bt362.2.1 a1).bind fun t370=>(some t370)) else (some false)))=some r:=h
 clear h
 replace H:=Option.bind_eq_some_iff.mp H
 obtain ⟨⟨t362,t365,t368⟩,A30,H⟩:=H
 replace H:(if t368=true then ((impl_set_has.f t362 t365 a1).bind fun t370=>(some t370)) else (some false))=some r:=H
 have A3:=Aside0.mk A30
 clear A30
 by_cases c4:t368=true
 ·subst c4
  have H1:((impl_set_has.f t362 t365 a1).bind fun t370=>(some t370))=some r:=by rw [if_pos rfl] at H;exact H
  clear H
  have H:=H1
  clear H1
  replace H:=Option.bind_eq_some_iff.mp H
  obtain ⟨t370,A50,H⟩:=H
  replace H:(some t370)=some r:=H
  have A5:=Aside0.mk A50
  clear A50
  obtain rfl:=Option.some.inj H
  go_enter Try.func11,Try.ntmps11
  go_wp2_with (first|((with_reducible refine gate_callee (f:=30) rfl ?_);refine goesL_ (some 9) rfl rfl Try.func30 (by kernel_rfl) rfl #[.string a0] rfl (by (try simp only [List.map_toArray,List.map_cons,List.map_nil]);first|done|rfl|(simp only [List.length_drop,List.length_take];rfl)) ?_;(with_reducible refine (impl_setOf.calls k a0 t362 t365 true _ A3.out).mono ?_);rintro e w6 ⟨v363,v366,rfl,ho0,ho1,hb⟩;refine ⟨_,rfl,?_⟩;have n0_:=Aside0.mk (Kd.R_lower ho0 (yQ (by repeat (first|(with_reducible first|exact HB.out|apply yA|apply yB|apply yC)|exact HB.out))));have n1_:=Aside0.mk (Kd.R_lower ho1 (yQ (by repeat (first|(with_reducible first|exact HB.out|apply yA|apply yB|apply yC)|exact HB.out))));have n2_:=Aside0.mk (yP (by repeat (first|(with_reducible first|exact HB.out|apply yA|apply yB|apply yC)|exact HB.out)) hb);clear HB;have HO364:=n0_;have HO367:=n1_;have HB:=n2_;clear n0_ n1_ n2_;(try clear hb);(try clear hb2);(try clear hk);(try clear hi);(try clear ho0);(try clear ho1))|((with_reducible refine gate_dst (N:=5) rfl ?_);refine box_event ?hg (N:=5) ?hd (cs:=#[.slice none 0 0,.slice none 0 0]) (t:=48) ?hr ?_;(case hd=>rfl);(case hg=>rfl);(case hr=>first|(go_simp;done)|(go_simp;rfl));intro gb369 hg w7 hbox hb;have n0_:=Aside0.mk (Kd.R_below (by (with_reducible repeat (first|apply yH|apply yI|apply yJ));exact HO364.out) hb);have n1_:=Aside0.mk (Kd.R_below (by (with_reducible repeat (first|apply yH|apply yI|apply yJ));exact HO367.out) hb);have n2_:=Aside0.mk (yP (by repeat (first|(with_reducible first|exact HB.out|apply yA|apply yB|apply yC)|exact HB.out)) hb);have n3_:=Aside0.mk (hbox);have n4_:=Aside0.mk ((by rw [hg];exact (yQ (by repeat (first|(with_reducible first|exact HB.out|apply yA|apply yB|apply yC)|exact HB.out))):w.heap.size≤gb369));have n5_:=Aside0.mk ((by rw [hg];exact (yQ (by repeat (first|(with_reducible first|exact HB.out|apply yA|apply yB|apply yC)|exact HB.out))):w.heap.size≤gb369));clear HO364;clear HO367;clear HB;have HO364:=n0_;have HO367:=n1_;have HB:=n2_;have BK369:=n3_;have GW369:=n4_;have GE369:=n5_;clear n0_ n1_ n2_ n3_ n4_ n5_;clear hb hbox hg;obtain ⟨Ao8,co8,eo8⟩:=Kd.R_slice HO364.out;subst eo8;have hcz9_0:w7.cell? ⟨gb369,0,none⟩=some (.slice none 0 0):=(blk_cell BK369.out 0).trans rfl;have hcz9_1:w7.cell? ⟨gb369,1,none⟩=some (.slice none 0 0):=(blk_cell BK369.out 1).trans rfl;have hfz9_0:=blk_frozen BK369.out 0;have hfz9_1:=blk_frozen BK369.out 1;obtain ⟨Ao10,co10,eo10⟩:=Kd.R_slice HO367.out;subst eo10)|(go_at_call 35;(with_reducible refine (impl_set_has.calls _ _ t362 _ _ t365 a1 t370 _ ?side1 ?side2 ?side3 ?side4 A5.out).mono ?_);(case side1=>refine (Kd.R_reads' (e:=4) (base:=w.heap.size) (ok:=fun k_=>some k_≠(.slice Ao10 t365.length co10:Value).ownBlock) (n:=t362.length) (c:=co8) ?_).2.2;exact (by (with_reducible repeat (first|apply yH|apply yI|apply yJ));exact (Kd.R_mono (Kd.R_far (p:=⟨gb369,1,none⟩) (Kd.R_far (p:=⟨gb369,0,none⟩) (Kd.R_types HO364.out BK369.out (by decide)) (fun _ hk=>hk.2) (.slice Ao8 t362.length co8)) (fun _ hk=>hk.2) (.slice Ao10 t365.length co10)) (fun _ h_=>h_.1))));(case side2=>exact (Kd.R_reads' HO364.out).2.1);(case side3=>refine (Kd.R_reads' (e:=4) (base:=w.heap.size) (ok:=fun k_=>some k_≠(.slice Ao8 t362.length co8:Value).ownBlock) (n:=t365.length) (c:=co10) ?_).2.2;exact (by (with_reducible repeat (first|apply yH|apply yI|apply yJ));exact (Kd.R_mono (Kd.R_far (p:=⟨gb369,1,none⟩) (Kd.R_far (p:=⟨gb369,0,none⟩) (Kd.R_types HO367.out BK369.out (by decide)) (fun _ hk=>hk.2) (.slice Ao8 t362.length co8)) (fun _ hk=>hk.2) (.slice Ao10 t365.length co10)) (fun _ h_=>h_.1))));(case side4=>exact (Kd.R_reads' HO367.out).2.1);rintro e w11 ⟨rfl,hb⟩;have n0_:=Aside0.mk (Kd.R_below (by (with_reducible repeat (first|apply yH|apply yI|apply yJ));exact (Kd.R_mono (Kd.R_far (p:=⟨gb369,1,none⟩) (Kd.R_far (p:=⟨gb369,0,none⟩) (Kd.R_types HO364.out BK369.out (by decide)) (fun _ hk=>hk.2) (.slice Ao8 t362.length co8)) (fun _ hk=>hk.2) (.slice Ao10 t365.length co10)) (fun _ h_=>h_.1))) hb);have n1_:=Aside0.mk (Kd.R_below (by (with_reducible repeat (first|apply yH|apply yI|apply yJ));exact (Kd.R_mono (Kd.R_far (p:=⟨gb369,1,none⟩) (Kd.R_far (p:=⟨gb369,0,none⟩) (Kd.R_types HO367.out BK369.out (by decide)) (fun _ hk=>hk.2) (.slice Ao8 t362.length co8)) (fun _ hk=>hk.2) (.slice Ao10 t365.length co10)) (fun _ h_=>h_.1))) hb);have n2_:=Aside0.mk (blk_below (g:=gb369) (o:=.cells #[.slice Ao8 t362.length co8,.slice Ao10 t365.length co10] 48 (0,0)) (by (with_reducible repeat (first|refine yE ?_ _|refine yF ?_|refine yG ?_ _));refine blk_put (cs:=#[.slice Ao8 t362.length co8,.slice none 0 0]) ?_ 1 _ rfl;(with_reducible repeat (first|refine yE ?_ _|refine yF ?_|refine yG ?_ _));refine blk_put (cs:=#[.slice none 0 0,.slice none 0 0]) ?_ 0 _ rfl;(with_reducible repeat (first|refine yE ?_ _|refine yF ?_|refine yG ?_ _));exact BK369.out) hb);have n3_:=Aside0.mk (yP (by repeat (first|(with_reducible first|exact HB.out|apply yA|apply yB|apply yC|refine yD ?_ GE369.out)|exact HB.out)) hb);clear HO364;clear HO367;clear BK369;clear HB;have HO364:=n0_;have HO367:=n1_;have BK369:=n2_;have HB:=n3_;clear n0_ n1_ n2_ n3_;(try clear hb);(try clear hb2);(try clear hk);(try clear hi)))
  go_ret
  exact ⟨by first|rfl|(simp [errW_none,errW_some]<;>rfl)|(simp [*,errW_none,errW_some]<;>rfl)|(simp [errW_none,errW_some];exact ⟨rfl,rfl⟩),by repeat (first|(with_reducible first|exact HB.out|apply yA|apply yB|apply yC|refine yD ?_ GE369.out)|exact HB.out)⟩
 ·replace c4:=Bool.eq_false_iff.mpr c4
  subst c4
  have H1:(some false)=some r:=by rw [if_neg (show ¬ (false=true) by decide)] at H;exact H
  clear H
  have H:=H1
  clear H1
  obtain rfl:=Option.some.inj H
  go_enter Try.func11,Try.ntmps11
  go_wp2_with (first|((with_reducible refine gate_callee (f:=30) rfl ?_);refine goesL_ (some 9) rfl rfl Try.func30 (by kernel_rfl) rfl #[.string a0] rfl (by (try simp only [List.map_toArray,List.map_cons,List.map_nil]);first|done|rfl|(simp only [List.length_drop,List.length_take];rfl)) ?_;(with_reducible refine (impl_setOf.calls k a0 t362 t365 false _ A3.out).mono ?_);rintro e w12 ⟨v363,v366,rfl,ho0,ho1,hb⟩;refine ⟨_,rfl,?_⟩;have n0_:=Aside0.mk (Kd.R_lower ho0 (yQ (by repeat (first|(with_reducible first|exact HB.out|apply yA|apply yB|apply yC)|exact HB.out))));have n1_:=Aside0.mk (Kd.R_lower ho1 (yQ (by repeat (first|(with_reducible first|exact HB.out|apply yA|apply yB|apply yC)|exact HB.out))));have n2_:=Aside0.mk (yP (by repeat (first|(with_reducible first|exact HB.out|apply yA|apply yB|apply yC)|exact HB.out)) hb);clear HB;have HO364:=n0_;have HO367:=n1_;have HB:=n2_;clear n0_ n1_ n2_;(try clear hb);(try clear hb2);(try clear hk);(try clear hi);(try clear ho0);(try clear ho1))|((with_reducible refine gate_dst (N:=5) rfl ?_);refine box_event ?hg (N:=5) ?hd (cs:=#[.slice none 0 0,.slice none 0 0]) (t:=48) ?hr ?_;(case hd=>rfl);(case hg=>rfl);(case hr=>first|(go_simp;done)|(go_simp;rfl));intro gb369 hg w13 hbox hb;have n0_:=Aside0.mk (Kd.R_below (by (with_reducible repeat (first|apply yH|apply yI|apply yJ));exact HO364.out) hb);have n1_:=Aside0.mk (Kd.R_below (by (with_reducible repeat (first|apply yH|apply yI|apply yJ));exact HO367.out) hb);have n2_:=Aside0.mk (yP (by repeat (first|(with_reducible first|exact HB.out|apply yA|apply yB|apply yC)|exact HB.out)) hb);have n3_:=Aside0.mk (hbox);have n4_:=Aside0.mk ((by rw [hg];exact (yQ (by repeat (first|(with_reducible first|exact HB.out|apply yA|apply yB|apply yC)|exact HB.out))):w.heap.size≤gb369));have n5_:=Aside0.mk ((by rw [hg];exact (yQ (by repeat (first|(with_reducible first|exact HB.out|apply yA|apply yB|apply yC)|exact HB.out))):w.heap.size≤gb369));clear HO364;clear HO367;clear HB;have HO364:=n0_;have HO367:=n1_;have HB:=n2_;have BK369:=n3_;have GW369:=n4_;have GE369:=n5_;clear n0_ n1_ n2_ n3_ n4_ n5_;clear hb hbox hg;obtain ⟨Ao14,co14,eo14⟩:=Kd.R_slice HO364.out;subst eo14;have hcz15_0:w13.cell? ⟨gb369,0,none⟩=some (.slice none 0 0):=(blk_cell BK369.out 0).trans rfl;have hcz15_1:w13.cell? ⟨gb369,1,none⟩=some (.slice none 0 0):=(blk_cell BK369.out 1).trans rfl;have hfz15_0:=blk_frozen BK369.out 0;have hfz15_1:=blk_frozen BK369.out 1;obtain ⟨Ao16,co16,eo16⟩:=Kd.R_slice HO367.out;subst eo16))
  go_ret
  exact ⟨by first|rfl|(simp [errW_none,errW_some]<;>rfl)|(simp [*,errW_none,errW_some]<;>rfl)|(simp [errW_none,errW_some];exact ⟨rfl,rfl⟩),by repeat (first|(with_reducible first|exact HB.out|apply yA|apply yB|apply yC|refine yD ?_ GE369.out)|exact HB.out)⟩

end Go.Proofs.Ytneadgionjlicaa.P

-- The tidy form of a set of numbers told by a tail and a ring is one; texts and what they tell.
namespace Go.Proofs.Ytneadgionjlicaa.P
open Go.RowKit Go.Proofs.YtneadgionjlicaaW.PrintWords Go.Proofs.YtneadgionjlicaaW.PrintLast Go.Proofs.YtneadgionjlicaaW.PrintMore
set_option linter.unusedVariables false
set_option linter.unusedSimpArgs false
/-- Is a number in the set of a tail and a ring? -/
def hasB (t r : List Bool) (n : Nat) : Bool := if n < t.length then t.getD n false else r.getD ((n - t.length) % r.length) false

/-- No shorter ring tells the same: of each proper divisor's period some place is not met. -/
def Prim (r : List Bool) : Prop := r ≠ [] ∧ ∀ d, 0 < d → d < r.length → d ∣ r.length → ∃ i, i < r.length ∧ r.getD i false ≠ r.getD (i % d) false

/-- The tidy form. -/
def Canon (t r : List Bool) : Prop := Prim r ∧ (t = [] ∨ t.getD (t.length - 1) false ≠ r.getD (r.length - 1) false)

theorem hasB_tail {t r : List Bool} {n : Nat} (h : n < t.length) : hasB t r n = t.getD n false := by simp [hasB, h]
theorem hasB_ring {t r : List Bool} {i : Nat} : hasB t r (t.length + i) = r.getD (i % r.length) false := by
  unfold hasB; rw [if_neg (by omega)]; congr 2; omega
theorem hasB_ring' {t r : List Bool} {n : Nat} (h : t.length ≤ n) : hasB t r n = r.getD ((n - t.length) % r.length) false := by
  unfold hasB; rw [if_neg (by omega)]

/-- f comes again by p, from m on. -/
def Per (f : Nat → Bool) (m p : Nat) : Prop := ∀ n, m ≤ n → f (n + p) = f n

theorem Per.mono {f : Nat → Bool} {m m' p : Nat} (h : Per f m p) (hm : m ≤ m') : Per f m' p := fun n hn => h n (by omega)
theorem Per.mul {f : Nat → Bool} {m p : Nat} (h : Per f m p) : ∀ k, Per f m (k * p)
  | 0 => fun n _ => by simp
  | k + 1 => fun n hn => by
    have h1 := Per.mul h k n hn
    have h2 := h (n + k * p) (by omega)
    rw [Nat.succ_mul, ← Nat.add_assoc, h2, h1]
theorem Per.dvd {f : Nat → Bool} {m p q : Nat} (h : Per f m p) (hd : p ∣ q) : Per f m q := by
  obtain ⟨k, rfl⟩ := hd
  rw [Nat.mul_comm]; exact h.mul k
theorem hasB_per (t r : List Bool) : Per (hasB t r) t.length r.length := fun n hn => by
  rw [hasB_ring' hn, hasB_ring' (by omega)]
  congr 1
  rw [show n + r.length - t.length = (n - t.length) + r.length by omega, Nat.add_mod_right]

/-- From a point far out on, a number and another one of the same rest. -/
theorem Per.mod {f : Nat → Bool} {m p : Nat} (h : Per f m p) (n : Nat) (hn : m ≤ n) : f n = f (m + (n - m) % p) := by
  have h1 := h.mul ((n - m) / p) (m + (n - m) % p) (by omega)
  rw [← h1]
  congr 1
  have := Nat.mod_add_div (n - m) p
  rw [Nat.mul_comm] at this
  omega

/-- Two numbers' greatest divisor, out of both: g + a q = b p. -/
theorem bezout_nat (p : Nat) : ∀ q, 0 < p → ∃ a b, Nat.gcd p q + a * q = b * p := by
  intro q hp
  have key : ∀ n, ∀ p q : Nat, p + q ≤ n → 0 < p → (∃ a b, Nat.gcd p q + a * q = b * p) := by
    intro n
    induction n with
    | zero => intro p q h hp; omega
    | succ n ih =>
      intro p q h hp
      rcases Nat.eq_zero_or_pos q with rfl | hq
      · exact ⟨0, 1, by simp⟩
      · rcases Nat.lt_or_ge q p with hlt | hge
        · -- q < p: swap
          obtain ⟨a, b, e⟩ := ih q (p % q) (by have := Nat.mod_lt p hq; omega) hq
          -- gcd q (p % q) + a (p % q) = b q
          have hg : Nat.gcd q (p % q) = Nat.gcd p q := by rw [Nat.gcd_comm p q, Nat.gcd_rec q p, Nat.gcd_comm]
          rw [hg] at e
          -- p = q (p/q) + p % q : g + a p = (b + a (p/q)) q ; want g + A q = B p
          have hp2 := Nat.mod_add_div p q
          have e2 : Nat.gcd p q + a * p = (b + a * (p / q)) * q := by
            have : a * p = a * (p % q) + a * (p / q) * q := by
              conv => lhs; rw [← hp2]
              rw [Nat.mul_add, Nat.mul_comm q (p / q), Nat.mul_assoc]
            rw [this, Nat.add_mul, ← Nat.add_assoc, e]
          -- g + a p = c q. take B = a' p with...: g + (k p - c) q = (k q - a) p with k large
          refine ⟨(b + a * (p / q) + a) * p - (b + a * (p / q)), (b + a * (p / q) + a) * q - a, ?_⟩
          generalize hc : b + a * (p / q) = c at e2 ⊢
          have h1 : c ≤ (c + a) * p := Nat.le_trans (Nat.le_add_right c a) (Nat.le_mul_of_pos_right _ hp)
          have h2 : a ≤ (c + a) * q := Nat.le_trans (Nat.le_add_left a c) (Nat.le_mul_of_pos_right _ hq)
          rw [Nat.sub_mul, Nat.sub_mul]
          have h3 : c * q ≤ (c + a) * p * q := Nat.mul_le_mul_right q h1
          have h4 : a * p ≤ (c + a) * q * p := Nat.mul_le_mul_right p h2
          have h5 : (c + a) * p * q = (c + a) * q * p := by rw [Nat.mul_assoc, Nat.mul_comm p q, Nat.mul_assoc]
          omega
        · obtain ⟨a, b, e⟩ := ih p (q - p) (by omega) hp
          have hg : Nat.gcd p (q - p) = Nat.gcd p q := Nat.gcd_sub_self_right hge
          rw [hg] at e
          refine ⟨a, b + a, ?_⟩
          have : a * q = a * (q - p) + a * p := by rw [← Nat.mul_add]; congr 1; omega
          rw [this, ← Nat.add_assoc, e, Nat.add_mul]
  exact key (p + q) p q (Nat.le_refl _) hp

theorem Per.gcd {f : Nat → Bool} {m p q : Nat} (hp : 0 < p) (h : Per f m p) (h' : Per f m q) : Per f m (Nat.gcd p q) := by
  obtain ⟨a, b, e⟩ := bezout_nat p q hp
  intro n hn
  have h1 := h'.mul a (n + Nat.gcd p q) (by omega)
  have h2 := h.mul b n hn
  rw [← h1, Nat.add_assoc, e, h2]

theorem prim_period {t r : List Bool} (h : Prim r) {M g : Nat} (hg : 0 < g) (hd : g ∣ r.length) (hM : t.length ≤ M) (hp : Per (hasB t r) M g) : g = r.length := by
  rcases Nat.lt_or_ge g r.length with hlt | hge
  · exfalso
    obtain ⟨i, hi, hne⟩ := h.2 g hg hlt hd
    apply hne
    -- r[i] = f (m + i + k p) with k p large
    have hpos : 0 < r.length := by omega
    have e1 : ∀ j, j < r.length → r.getD j false = hasB t r (t.length + (j + M * r.length)) := by
      intro j hj
      rw [hasB_ring, Nat.add_mul_mod_self_right, Nat.mod_eq_of_lt hj]
    have hMl : M ≤ M * r.length := Nat.le_mul_of_pos_right _ hpos
    have hmod : i % g < r.length := Nat.lt_of_lt_of_le (Nat.mod_lt i hg) (by omega)
    rw [e1 i hi, e1 (i % g) hmod]
    have := hp.mul (i / g) (t.length + (i % g + M * r.length)) (by omega)
    rw [← this]
    congr 1
    have := Nat.mod_add_div i g
    rw [Nat.mul_comm] at this
    omega
  · exact Nat.le_antisymm (Nat.le_of_dvd (by have := h.1; exact List.length_pos_iff.2 this) hd) hge

/-- THE TIDY FORM IS ONE. -/
theorem canon_unique {t r t' r' : List Bool} (h : Canon t r) (h' : Canon t' r') (he : ∀ n, hasB t r n = hasB t' r' n) : t = t' ∧ r = r' := by
  have hf : hasB t r = hasB t' r' := funext he
  have hr : 0 < r.length := List.length_pos_iff.2 h.1.1
  have hr' : 0 < r'.length := List.length_pos_iff.2 h'.1.1
  have p1 : Per (hasB t r) (t.length + t'.length) r.length := (hasB_per t r).mono (by omega)
  have p2 : Per (hasB t r) (t.length + t'.length) r'.length := by rw [hf]; exact (hasB_per t' r').mono (by omega)
  have pg := p1.gcd hr p2
  have hgp : 0 < Nat.gcd r.length r'.length := Nat.gcd_pos_of_pos_left _ hr
  have e1 := prim_period (M := t.length + t'.length) h.1 hgp (Nat.gcd_dvd_left _ _) (by omega) pg
  have e2 := prim_period (t := t') (M := t.length + t'.length) h'.1 hgp (Nat.gcd_dvd_right _ _) (by omega) (by rw [← hf]; exact pg)
  have hl : r.length = r'.length := by omega
  have aux : ∀ {t r t' r' : List Bool}, Canon t' r' → hasB t r = hasB t' r' → r.length = r'.length → 0 < r.length → ¬ t.length < t'.length := by
    intro t r t' r' h' hf hl hr hlt
    rcases h'.2 with h0 | h0
    · rw [h0] at hlt; simp at hlt
    · apply h0
      have a1 : t'.getD (t'.length - 1) false = hasB t r (t'.length - 1) := by rw [hf, hasB_tail (by omega)]
      have a2 : r'.getD (r'.length - 1) false = hasB t r (t'.length - 1 + r.length) := by
        rw [hf, hl, hasB_ring' (by omega)]
        congr 1
        rw [show t'.length - 1 + r'.length - t'.length = r'.length - 1 by omega, Nat.mod_eq_of_lt (by omega)]
      rw [a1, a2, hasB_per t r _ (by omega)]
  have hm : t.length = t'.length := by
    have b1 := aux h' hf hl hr
    have b2 := aux h hf.symm hl.symm hr'
    omega
  constructor
  · apply List.ext_getElem hm
    intro i h1 h2
    have := he i
    rw [hasB_tail h1, hasB_tail h2] at this
    simpa [List.getD_eq_getElem?_getD, h1, h2] using this
  · apply List.ext_getElem hl
    intro i h1 h2
    have := he (t.length + i)
    rw [hasB_ring, hm, hasB_ring, Nat.mod_eq_of_lt h1, Nat.mod_eq_of_lt h2] at this
    simpa [List.getD_eq_getElem?_getD, h1, h2] using this
/-- d parts the ring's length, and all is as d places ahead. -/
def IsPer (r : List Bool) (d : Nat) : Prop := r.length % d = 0 ∧ ∀ i, d ≤ i → i < r.length → r.getD i false = r.getD (i - d) false

theorem IsPer.mod {r : List Bool} {d : Nat} (h : IsPer r d) (hd : 0 < d) : ∀ i, i < r.length → r.getD i false = r.getD (i % d) false := by
  intro i
  induction i using Nat.strongRecOn with
  | _ i ih =>
    intro hi
    rcases Nat.lt_or_ge i d with hlt | hge
    · rw [Nat.mod_eq_of_lt hlt]
    · rw [h.2 i hge hi, ih (i - d) (by omega) (by omega)]
      congr 1
      conv => rhs; rw [show i = (i - d) + d by omega, Nat.add_mod_right]

theorem IsPer.of_mod {r : List Bool} {d : Nat} (hl : r.length % d = 0) (hd : 0 < d) (h : ∀ i, i < r.length → r.getD i false = r.getD (i % d) false) : IsPer r d := by
  refine ⟨hl, fun i hi hlt => ?_⟩
  rw [h i hlt, h (i - d) (by omega)]
  congr 1
  conv => lhs; rw [show i = (i - d) + d by omega, Nat.add_mod_right]

theorem prim_of {r : List Bool} (hr : r ≠ []) (h : ∀ d, 0 < d → d < r.length → ¬ IsPer r d) : Prim r := by
  refine ⟨hr, fun d h0 hlt hd => ?_⟩
  refine Classical.byContradiction fun hn => ?_
  apply h d h0 hlt
  refine IsPer.of_mod (Nat.mod_eq_zero_of_dvd hd) h0 fun i hi => ?_
  exact Classical.byContradiction fun hne => hn ⟨i, hi, hne⟩

theorem take_has {t r : List Bool} {d : Nat} (h : IsPer r d) (h0 : 0 < d) (hd : d ≤ r.length) (x : Nat) : hasB t (r.take d) x = hasB t r x := by
  rcases Nat.lt_or_ge x t.length with hlt | hge
  · rw [hasB_tail hlt, hasB_tail hlt]
  · rw [hasB_ring' hge, hasB_ring' hge]
    have hl : (r.take d).length = d := by rw [List.length_take]; omega
    have hdv : d ∣ r.length := Nat.dvd_of_mod_eq_zero h.1
    rw [hl, h.mod h0 _ (Nat.mod_lt _ (by omega)), Nat.mod_mod_of_dvd _ hdv]
    simp [List.getD_eq_getElem?_getD, List.getElem?_take, Nat.mod_lt _ h0]

/-- The last sign of the tail goes into the ring. -/
def rotR (r : List Bool) : List Bool := r.getD (r.length - 1) false :: r.take (r.length - 1)
theorem rotR_length {r : List Bool} (hr : r ≠ []) : (rotR r).length = r.length := by
  have := List.length_pos_iff.2 hr
  simp [rotR]; omega
theorem rotR_get {r : List Bool} (hr : r ≠ []) {i : Nat} (hi : i < r.length) : (rotR r).getD i false = if i = 0 then r.getD (r.length - 1) false else r.getD (i - 1) false := by
  cases i with
  | zero => simp [rotR]
  | succ i =>
    simp [rotR, List.getD_eq_getElem?_getD, List.getElem?_take]
    rw [if_pos (by omega)]
theorem rot_has {t r : List Bool} (ht : t ≠ []) (hr : r ≠ []) (h : t.getD (t.length - 1) false = r.getD (r.length - 1) false) (x : Nat) :
    hasB (t.take (t.length - 1)) (rotR r) x = hasB t r x := by
  have hm := List.length_pos_iff.2 ht
  have hn := List.length_pos_iff.2 hr
  have hl : (t.take (t.length - 1)).length = t.length - 1 := by rw [List.length_take]; omega
  rcases Nat.lt_or_ge x (t.length - 1) with hlt | hge
  · rw [hasB_tail (by omega), hasB_tail (by omega)]
    simp only [List.getD_eq_getElem?_getD, List.getElem?_take, if_pos hlt]
  · rw [hasB_ring' (by omega), hl, rotR_length hr]
    have hmod := Nat.mod_lt (x - (t.length - 1)) hn
    rw [rotR_get hr hmod]
    rcases Nat.eq_or_lt_of_le hge with he | hgt
    · rw [← he, Nat.sub_self, Nat.zero_mod, if_pos rfl, hasB_tail (by omega), h]
    · rw [hasB_ring' (by omega), show x - (t.length - 1) = (x - t.length) + 1 by omega]
      have hmod2 := Nat.mod_lt (x - t.length) hn
      rcases Nat.eq_or_lt_of_le (show (x - t.length) % r.length + 1 ≤ r.length by omega) with he | hlt
      · have : ((x - t.length) + 1) % r.length = 0 := by rw [Nat.add_mod]; rcases Nat.eq_or_lt_of_le (show 1 ≤ r.length from hn) with h1 | h1
                                                         · rw [← h1]; exact Nat.mod_one _
                                                         · rw [Nat.mod_eq_of_lt h1, he, Nat.mod_self]
        rw [this, if_pos rfl]; congr 1; omega
      · have : ((x - t.length) + 1) % r.length = (x - t.length) % r.length + 1 := by
          rw [Nat.add_mod, Nat.mod_eq_of_lt (show 1 < r.length by omega), Nat.mod_eq_of_lt hlt]
        rw [this, if_neg (by omega), Nat.add_sub_cancel]

theorem prim_rot {r : List Bool} (h : Prim r) : Prim (rotR r) := by
  have hr := h.1
  have hn := List.length_pos_iff.2 hr
  refine prim_of (by simp [rotR]) fun d h0 hlt hp => ?_
  rw [rotR_length hr] at hlt
  have hd : d ∣ r.length := by rw [← rotR_length hr]; exact Nat.dvd_of_mod_eq_zero hp.1
  have e : hasB [r.getD (r.length - 1) false] r = hasB [] (rotR r) := funext fun x => by
    have := rot_has (t := [r.getD (r.length - 1) false]) (by simp) hr (by simp) x
    rw [← this]; simp
  have hper : Per (hasB [r.getD (r.length - 1) false] r) 1 d := by
    rw [e]
    intro n _
    have e1 := take_has (t := []) hp h0 (by rw [rotR_length hr]; omega)
    rw [← e1, ← e1]
    have := hasB_per [] ((rotR r).take d) n (by simp)
    rwa [List.length_take, rotR_length hr, Nat.min_eq_left (by omega)] at this
  have := prim_period (t := [r.getD (r.length - 1) false]) (M := 1) h h0 hd (by simp) hper
  omega

/-- (t', r') is the tidy form of (t, r). -/
structure Tidy (t r t' r' : List Bool) : Prop where
  canon : Canon t' r'
  has : ∀ n, hasB t' r' n = hasB t r n
  tl : t'.length ≤ t.length
  rl : r'.length ≤ r.length
theorem Tidy.same {t r t' r' a b : List Bool} (h : Tidy t r t' r') (h' : Tidy t r a b) : t' = a ∧ r' = b := canon_unique h.canon h'.canon fun n => by rw [h.has, h'.has]
theorem Tidy.pos {t r t' r' : List Bool} (h : Tidy t r t' r') : 0 < r'.length := List.length_pos_iff.2 h.canon.1.1
theorem prim_take {r : List Bool} {d : Nat} (hd : 0 < d) (hdl : d ≤ r.length) (hp : IsPer r d) (hmin : ∀ d', 0 < d' → d' < d → ¬ IsPer r d') : Prim (r.take d) := by
  have hl : (r.take d).length = d := by rw [List.length_take]; omega
  refine prim_of (by intro e; rw [e] at hl; simp at hl; omega) fun d' h0 h1 h2 => ?_
  rw [hl] at h1
  apply hmin d' h0 h1
  have g1 : ∀ i, i < d → (r.take d).getD i false = r.getD i false := fun i hi => by simp only [List.getD_eq_getElem?_getD, List.getElem?_take, if_pos hi]
  have hdd : d' ∣ d := by rw [← hl]; exact Nat.dvd_of_mod_eq_zero h2.1
  refine IsPer.of_mod (Nat.mod_eq_zero_of_dvd (Nat.dvd_trans hdd (Nat.dvd_of_mod_eq_zero hp.1))) h0 fun i hi => ?_
  have a1 := hp.mod hd i hi
  have hm := Nat.mod_lt i hd
  have a2 := h2.mod h0 (i % d) (by rw [hl]; exact hm)
  rw [g1 _ hm, g1 _ (Nat.lt_trans (Nat.mod_lt _ h0) h1), Nat.mod_mod_of_dvd _ hdd] at a2
  rw [a1, a2]

theorem tidy_exists : ∀ (n : Nat) (t r : List Bool), t.length + r.length = n → r ≠ [] → ∃ t' r', Tidy t r t' r' := by
  intro n
  induction n using Nat.strongRecOn with
  | _ n ih =>
    intro t r hn hr
    have hpos := List.length_pos_iff.2 hr
    by_cases hex : ∃ d, 0 < d ∧ d < r.length ∧ IsPer r d
    · obtain ⟨d, h0, hd, hp⟩ := hex
      have hlt : (r.take d).length = d := by rw [List.length_take]; omega
      obtain ⟨t', r', h⟩ := ih (t.length + (r.take d).length) (by omega) t (r.take d) rfl (by intro e; rw [e] at hlt; simp at hlt; omega)
      exact ⟨t', r', h.canon, fun x => by rw [h.has, take_has hp h0 (by omega)], h.tl, by have := h.rl; omega⟩
    · have hprim : Prim r := prim_of hr fun d h0 h1 hp => hex ⟨d, h0, h1, hp⟩
      by_cases ht : t = []
      · exact ⟨t, r, ⟨hprim, .inl ht⟩, fun _ => rfl, Nat.le_refl _, Nat.le_refl _⟩
      · have htp := List.length_pos_iff.2 ht
        by_cases he : t.getD (t.length - 1) false = r.getD (r.length - 1) false
        · obtain ⟨t', r', h⟩ := ih ((t.take (t.length - 1)).length + (rotR r).length) (by rw [rotR_length hr, List.length_take]; omega) (t.take (t.length - 1)) (rotR r) rfl (by simp [rotR])
          exact ⟨t', r', h.canon, fun x => by rw [h.has, rot_has ht hr he], by have := h.tl; rw [List.length_take] at this; omega, by have := h.rl; rw [rotR_length hr] at this; omega⟩
        · exact ⟨t, r, ⟨hprim, .inr he⟩, fun _ => rfl, Nat.le_refl _, Nat.le_refl _⟩

/-- The tidy tail and ring of a set. -/
noncomputable def cn (f : Nat → Bool) : List Bool × List Bool :=
  open Classical in if h : ∃ p : List Bool × List Bool, Canon p.1 p.2 ∧ hasB p.1 p.2 = f then Classical.choose h else ([], [])
theorem cn_uniq {t r : List Bool} {f : Nat → Bool} (h : Canon t r) (hf : hasB t r = f) : cn f = (t, r) := by
  have hx : ∃ p : List Bool × List Bool, Canon p.1 p.2 ∧ hasB p.1 p.2 = f := ⟨(t, r), h, hf⟩
  unfold cn
  rw [dif_pos hx]
  have hs := Classical.choose_spec hx
  obtain ⟨e1, e2⟩ := canon_unique hs.1 h fun n => by rw [hs.2, hf]
  exact Prod.ext e1 e2
theorem Tidy.cn {t r t' r' : List Bool} (h : Tidy t r t' r') : cn (hasB t r) = (t', r') := cn_uniq h.canon (funext h.has)
theorem cn_tidy {t r : List Bool} (hr : r ≠ []) : Tidy t r (cn (hasB t r)).1 (cn (hasB t r)).2 := by
  obtain ⟨t', r', h⟩ := tidy_exists _ t r rfl hr
  rw [h.cn]; exact h

/-- The signs of a set: the first m, and the p behind these. -/
def mkT (f : Nat → Bool) (m : Nat) : List Bool := (List.range m).map f
def mkR (f : Nat → Bool) (m p : Nat) : List Bool := (List.range p).map fun i => f (m + i)
theorem mkT_length (f : Nat → Bool) (m : Nat) : (mkT f m).length = m := by simp [mkT]
theorem mkR_length (f : Nat → Bool) (m p : Nat) : (mkR f m p).length = p := by simp [mkR]
theorem mkT_get (f : Nat → Bool) {m i : Nat} (h : i < m) : (mkT f m).getD i false = f i := by simp [mkT, List.getD_eq_getElem?_getD, h]
theorem mkR_get (f : Nat → Bool) {m p i : Nat} (h : i < p) : (mkR f m p).getD i false = f (m + i) := by simp [mkR, List.getD_eq_getElem?_getD, h]
theorem mkR_ne (f : Nat → Bool) {m p : Nat} (h : 0 < p) : mkR f m p ≠ [] := by intro e; have := mkR_length f m p; rw [e] at this; simp at this; omega
theorem mk_has {f : Nat → Bool} {m p : Nat} (hp : 0 < p) (h : Per f m p) : hasB (mkT f m) (mkR f m p) = f := by
  funext x
  rcases Nat.lt_or_ge x m with hlt | hge
  · rw [hasB_tail (by rw [mkT_length]; exact hlt), mkT_get f hlt]
  · rw [hasB_ring' (by rw [mkT_length]; exact hge), mkT_length, mkR_length, mkR_get f (Nat.mod_lt _ hp), ← h.mod x hge]
theorem mkT_succ (f : Nat → Bool) (m : Nat) : mkT f (m + 1) = mkT f m ++ [f m] := by simp [mkT, List.range_succ]
theorem mkR_succ (f : Nat → Bool) (m p : Nat) : mkR f m (p + 1) = mkR f m p ++ [f (m + p)] := by simp [mkR, List.range_succ]
theorem mkT_add (f : Nat → Bool) (m p : Nat) : mkT f (m + p) = mkT f m ++ mkR f m p := by
  induction p with
  | zero => simp [mkR]
  | succ p ih => rw [← Nat.add_assoc, mkT_succ, ih, mkR_succ, List.append_assoc]
theorem mkT_take (f : Nat → Bool) (m p : Nat) : (mkT f (m + p)).take m = mkT f m := by rw [mkT_add, List.take_left' (mkT_length f m)]
theorem mkT_drop (f : Nat → Bool) (m p : Nat) : (mkT f (m + p)).drop m = mkR f m p := by rw [mkT_add, List.drop_left' (mkT_length f m)]

theorem cn_spec {f : Nat → Bool} {m p : Nat} (hp : 0 < p) (h : Per f m p) : Canon (cn f).1 (cn f).2 ∧ hasB (cn f).1 (cn f).2 = f ∧ (cn f).1.length ≤ m ∧ (cn f).2.length ≤ p := by
  have ht := cn_tidy (t := mkT f m) (mkR_ne f (m := m) hp)
  rw [mk_has hp h] at ht
  refine ⟨ht.canon, funext fun n => by rw [ht.has, mk_has hp h], ?_, ?_⟩
  · have := ht.tl; rwa [mkT_length] at this
  · have := ht.rl; rwa [mkR_length] at this
theorem cn_has {f : Nat → Bool} {m p : Nat} (hp : 0 < p) (h : Per f m p) : hasB (cn f).1 (cn f).2 = f := (cn_spec hp h).2.1
theorem cn_ne {f : Nat → Bool} {m p : Nat} (hp : 0 < p) (h : Per f m p) : (cn f).2 ≠ [] := (cn_spec hp h).1.1.1

/-- The least number by which the rest is the same. -/
def restN (t r : List Bool) (k : Nat) : Nat := if k < t.length then k else t.length + (k - t.length) % r.length
theorem restN_lt {t r : List Bool} (hr : 0 < r.length) (k : Nat) : restN t r k < t.length + r.length := by
  unfold restN
  have := Nat.mod_lt (k - t.length) hr
  split <;> omega
theorem restN_self {t r : List Bool} {k : Nat} (h : k < t.length + r.length) : restN t r k = k := by
  unfold restN
  split
  · rfl
  · rw [Nat.mod_eq_of_lt (by omega)]; omega
theorem restN_idem {t r : List Bool} (hr : 0 < r.length) (k : Nat) : restN t r (restN t r k) = restN t r k := restN_self (restN_lt hr k)
theorem restN_le {t r : List Bool} (k : Nat) : restN t r k ≤ k := by
  unfold restN
  split
  · exact Nat.le_refl _
  · have := Nat.mod_le (k - t.length) r.length; omega
theorem has_restN {t r : List Bool} (hr : 0 < r.length) (k n : Nat) : hasB t r (n + k) = hasB t r (n + restN t r k) := by
  unfold restN
  split
  · rfl
  · rename_i h
    have hp := hasB_per t r
    have h1 := hp.mul ((k - t.length) / r.length) (n + (t.length + (k - t.length) % r.length)) (by omega)
    rw [← h1]
    congr 1
    have := Nat.mod_add_div (k - t.length) r.length
    rw [Nat.mul_comm] at this
    omega
/-- Rests by two lesser numbers are different. -/
theorem rest_diff {t r : List Bool} (h : Canon t r) {i j : Nat} (hij : i < j) (hj : j < t.length + r.length) (he : ∀ n, hasB t r (n + i) = hasB t r (n + j)) : False := by
  have hr := List.length_pos_iff.2 h.1.1
  have hd : Per (hasB t r) i (j - i) := fun n hn => by
    have := he (n - i)
    rw [show n - i + i = n by omega, show n - i + j = n + (j - i) by omega] at this
    exact this.symm
  have hg := (hd.mono (m' := max i t.length) (by omega)).gcd (by omega) ((hasB_per t r).mono (m' := max i t.length) (by omega))
  have hgp : 0 < Nat.gcd (j - i) r.length := Nat.gcd_pos_of_pos_left _ (by omega)
  have e := prim_period (t := t) (M := max i t.length) h.1 hgp (Nat.gcd_dvd_right _ _) (by omega) hg
  have hdv : r.length ∣ j - i := by rw [← e]; exact Nat.gcd_dvd_left _ _
  have hle := Nat.le_of_dvd (by omega) hdv
  rcases Nat.lt_or_ge i t.length with hlt | hge
  · rcases h.2 with h0 | h0
    · rw [h0] at hlt; simp at hlt
    · apply h0
      have h1 := hd (t.length - 1) (by omega)
      rw [hasB_tail (show t.length - 1 < t.length by omega), hasB_ring' (by omega)] at h1
      rw [← h1]
      congr 1
      obtain ⟨c, hc⟩ := hdv
      have hc0 : 0 < c := by rcases Nat.eq_zero_or_pos c with h | h; rw [h, Nat.mul_zero] at hc; omega; exact h
      have hmul : r.length * c = r.length * (c - 1) + r.length := by
        rw [← Nat.mul_succ]; congr 1; omega
      rw [hc, show t.length - 1 + r.length * c - t.length = (r.length - 1) + r.length * (c - 1) by omega, Nat.add_mul_mod_self_left, Nat.mod_eq_of_lt (by omega)]
  · omega
theorem rest_same {t r : List Bool} (h : Canon t r) (i j : Nat) : (∀ n, hasB t r (n + i) = hasB t r (n + j)) ↔ restN t r i = restN t r j := by
  have hr := List.length_pos_iff.2 h.1.1
  constructor
  · intro he
    have he2 : ∀ n, hasB t r (n + restN t r i) = hasB t r (n + restN t r j) := fun n => by rw [← has_restN hr, ← has_restN hr, he]
    rcases Nat.lt_trichotomy (restN t r i) (restN t r j) with hlt | heq | hgt
    · exact (rest_diff h hlt (restN_lt hr j) he2).elim
    · exact heq
    · exact (rest_diff h hgt (restN_lt hr i) fun n => (he2 n).symm).elim
  · intro he n
    rw [has_restN hr i, has_restN hr j, he]

theorem bitsL_length : ∀ {s : List UInt8} {l : List Bool}, bitsL s = some l → l.length = s.length
  | [], l, h => by simp [bitsL] at h; subst h; rfl
  | c :: cs, l, h => by
    simp only [bitsL] at h
    split at h
    · obtain ⟨q, hq, rfl⟩ := Option.map_eq_some_iff.1 h; simp [bitsL_length hq]
    · split at h
      · obtain ⟨q, hq, rfl⟩ := Option.map_eq_some_iff.1 h; simp [bitsL_length hq]
      · cases h
theorem bitsL_sgn : ∀ l : List Bool, bitsL (l.map sgn) = some l
  | [] => rfl
  | b :: l => by cases b <;> simp [bitsL, sgn, bitsL_sgn l]
theorem byteArray_empty_chrs : chrs (⟨#[]⟩ : ByteArray) = [] := rfl
/-- A set text: its tail and its ring. -/
def parse (s : List UInt8) : Option (List Bool × List Bool) :=
  if s.findIdx (· == 40) + 2 < s.length ∧ s[s.length - 1]? = some 41 then
    match bitsL (s.take (s.findIdx (· == 40))), bitsL ((s.take (s.length - 1)).drop (s.findIdx (· == 40) + 1)) with
    | some a, some b => if a.length ≤ 60 ∧ b.length ≤ 60 then some (a, b) else none
    | _, _ => none
  else none
def parsed (s : ByteArray) (t r : List Bool) : List Bool × List Bool × Bool := match parse (chrs s) with | some (a, b) => (a, b, true) | none => (t, r, false)

theorem parse_some {s : List UInt8} {a b : List Bool} (h : parse s = some (a, b)) : a.length ≤ 60 ∧ b.length ≤ 60 ∧ b ≠ [] := by
  unfold parse at h
  split at h
  · rename_i hc
    split at h
    · rename_i x y hx hy
      split at h
      · rename_i hl
        simp only [Option.some.injEq, Prod.mk.injEq] at h
        obtain ⟨rfl, rfl⟩ := h
        refine ⟨hl.1, hl.2, fun e => ?_⟩
        have := bitsL_length hy
        rw [e] at this
        simp at this
        omega
      · cases h
    · cases h
  · cases h


/-- The text of a set, and true; false if it is too long. -/
def txt (p : List Bool × List Bool) : ByteArray × Bool := if p.1.length ≤ 60 ∧ p.2.length ≤ 60 then (textOf p.1 p.2, true) else (⟨#[]⟩, false)
theorem txt_ok {p : List Bool × List Bool} (h1 : p.1.length ≤ 60) (h2 : p.2.length ≤ 60) : txt p = (textOf p.1 p.2, true) := by unfold txt; rw [if_pos ⟨h1, h2⟩]
theorem chrs_append (a b : ByteArray) : chrs (a ++ b) = chrs a ++ chrs b := by simp [chrs, ByteArray.data_append]
theorem parse_ne {s : List UInt8} {a b : List Bool} (h : parse s = some (a, b)) : b ≠ [] := (parse_some h).2.2
theorem findIdx_sgn (t : List Bool) (l : List UInt8) : (t.map sgn ++ 40 :: l).findIdx (· == 40) = t.length := by
  induction t with
  | nil => rfl
  | cons b t ih =>
    rw [List.map_cons, List.cons_append, List.findIdx_cons, ih]
    cases b <;> rfl
/-- A text reads as what it was written of. -/
theorem parse_textOf {t r : List Bool} (ht : t.length ≤ 60) (hr : r.length ≤ 60) (hn : r ≠ []) : parse (chrs (textOf t r)) = some (t, r) := by
  have hpos := List.length_pos_iff.2 hn
  have e : chrs (textOf t r) = t.map sgn ++ 40 :: (r.map sgn ++ [41]) := by rw [chrs_textOf]; simp
  rw [e]
  unfold parse
  rw [findIdx_sgn]
  have hl : (t.map sgn ++ 40 :: (r.map sgn ++ [41])).length = t.length + (r.length + 2) := by simp
  rw [hl, if_pos]
  · have e1 : (t.map sgn ++ 40 :: (r.map sgn ++ [41])).take t.length = t.map sgn := by rw [List.take_left']; simp
    have e2 : ((t.map sgn ++ 40 :: (r.map sgn ++ [41])).take (t.length + (r.length + 2) - 1)).drop (t.length + 1) = r.map sgn := by
      rw [show t.map sgn ++ 40 :: (r.map sgn ++ [41]) = (t.map sgn ++ 40 :: r.map sgn) ++ [41] by simp, List.take_left' (by simp <;> omega), show t.map sgn ++ 40 :: r.map sgn = (t.map sgn ++ [40]) ++ r.map sgn by simp, List.drop_left' (by simp)]
    rw [e1, e2, bitsL_sgn, bitsL_sgn]
    simp only
    rw [if_pos ⟨ht, hr⟩]
  · refine ⟨by omega, ?_⟩
    rw [show t.map sgn ++ 40 :: (r.map sgn ++ [41]) = (t.map sgn ++ 40 :: r.map sgn) ++ [41] by simp, List.getElem?_append_right (by simp <;> omega)]
    rw [show t.length + (r.length + 2) - 1 - (t.map sgn ++ 40 :: r.map sgn).length = 0 by simp <;> omega]; rfl
theorem textOf_inj {t r t' r' : List Bool} (ht : t.length ≤ 60) (hr : r.length ≤ 60) (hn : r ≠ []) (ht' : t'.length ≤ 60) (hr' : r'.length ≤ 60) (hn' : r' ≠ []) (h : textOf t r = textOf t' r') : t = t' ∧ r = r' := by
  have h1 := parse_textOf ht hr hn
  rw [h, parse_textOf ht' hr' hn'] at h1
  simp only [Option.some.injEq, Prod.mk.injEq] at h1
  exact ⟨h1.1.symm, h1.2.symm⟩
theorem textOf_size (t r : List Bool) : (textOf t r).size = t.length + r.length + 2 := by
  rw [← chrs_length, chrs_textOf]; simp <;> omega


end Go.Proofs.Ytneadgionjlicaa.P

-- Texts of rests: as many as the tidy text has signs.
namespace Go.Proofs.Ytneadgionjlicaa.P
open Go.RowKit Go.Proofs.YtneadgionjlicaaW.PrintWords Go.Proofs.YtneadgionjlicaaW.PrintLast Go.Proofs.YtneadgionjlicaaW.PrintMore
set_option linter.unusedVariables false
set_option linter.unusedSimpArgs false

/-- A set, k taken away. -/
def shf (f : Nat → Bool) (k : Nat) : Nat → Bool := fun n => f (n + k)
theorem shf_per {f : Nat → Bool} {m p : Nat} (h : Per f m p) (k : Nat) : Per (shf f k) (m - k) p := fun n hn => by
  unfold shf
  rw [show n + p + k = n + k + p by omega]; exact h _ (by omega)
/-- The text of the rest by k. -/
noncomputable def rtext (f : Nat → Bool) (k : Nat) : ByteArray := textOf (cn (shf f k)).1 (cn (shf f k)).2
/-- The place of the rest by k. -/
noncomputable def rpl (f : Nat → Bool) (k : Nat) : Nat := restN (cn f).1 (cn f).2 k
/-- How many rests. -/
noncomputable def rnum (f : Nat → Bool) : Nat := (cn f).1.length + (cn f).2.length
section
variable {f : Nat → Bool} {m p : Nat}
theorem rpl_lt (hp : 0 < p) (h : Per f m p) (k : Nat) : rpl f k < rnum f := restN_lt (List.length_pos_iff.2 (cn_ne hp h)) k
theorem rpl_self {k : Nat} (hk : k < rnum f) : rpl f k = k := restN_self hk
theorem rpl_le (k : Nat) : rpl f k ≤ k := restN_le k
theorem rnum_le (hp : 0 < p) (h : Per f m p) : rnum f ≤ m + p := by
  have := cn_spec hp h
  unfold rnum; omega
theorem rpl_eq (hp : 0 < p) (h : Per f m p) (i j : Nat) : shf f i = shf f j ↔ rpl f i = rpl f j := by
  have hs := cn_spec hp h
  have := rest_same hs.1 i j
  rw [hs.2.1] at this
  constructor
  · intro e; exact this.1 fun n => congrFun e n
  · intro e; exact funext (this.2 e)
theorem rtext_eq (hp : 0 < p) (h : Per f m p) (hm : m ≤ 60) (hp2 : p ≤ 60) (i j : Nat) : rtext f i = rtext f j ↔ rpl f i = rpl f j := by
  rw [← rpl_eq hp h]
  have si := cn_spec hp (shf_per h i)
  have sj := cn_spec hp (shf_per h j)
  constructor
  · intro e
    obtain ⟨e1, e2⟩ := textOf_inj (by omega) (by omega) si.1.1.1 (by omega) (by omega) sj.1.1.1 e
    rw [← si.2.1, ← sj.2.1, e1, e2]
  · intro e; unfold rtext; rw [e]
end

end Go.Proofs.Ytneadgionjlicaa.P

-- The tidy text of a text.
namespace Go.Proofs.Ytneadgionjlicaa.P
open Go.RowKit Go.Proofs.YtneadgionjlicaaW.PrintWords Go.Proofs.YtneadgionjlicaaW.PrintLast Go.Proofs.YtneadgionjlicaaW.PrintMore
set_option linter.unusedVariables false
set_option linter.unusedSimpArgs false

theorem parse_len {s : List UInt8} {a b : List Bool} (h : parse s = some (a, b)) : s.length = a.length + b.length + 2 := by
  unfold parse at h
  split at h
  · rename_i hc
    split at h
    · rename_i x y hx hy
      split at h
      · simp only [Option.some.injEq, Prod.mk.injEq] at h
        obtain ⟨rfl, rfl⟩ := h
        have h1 := bitsL_length hx
        have h2 := bitsL_length hy
        simp only [List.length_take, List.length_drop] at h1 h2
        omega
      · cases h
    · cases h
  · cases h
/-- The set of a text. -/
def setf (s : List UInt8) : Nat → Bool := match parse s with | some (a, b) => hasB a b | none => fun _ => false
theorem setf_some {s : List UInt8} {a b : List Bool} (h : parse s = some (a, b)) : setf s = hasB a b := by unfold setf; rw [h]
/-- What SetTidy answers. -/
noncomputable def tdy (s : List UInt8) : ByteArray × Bool := match parse s with | some (a, b) => (textOf (cn (hasB a b)).1 (cn (hasB a b)).2, true) | none => (⟨#[]⟩, false)
theorem tdy_some {s : List UInt8} {a b : List Bool} (h : parse s = some (a, b)) : tdy s = (textOf (cn (hasB a b)).1 (cn (hasB a b)).2, true) := by unfold tdy; rw [h]
theorem tdy_none {s : List UInt8} (h : parse s = none) : tdy s = (⟨#[]⟩, false) := by unfold tdy; rw [h]
/-- The tidy text is a text of the same set, tail and ring tidy. -/
theorem parse_cn {f : Nat → Bool} {m p : Nat} (hp : 0 < p) (h : Per f m p) (hm : (cn f).1.length ≤ 60) (hp2 : (cn f).2.length ≤ 60) : parse (chrs (textOf (cn f).1 (cn f).2)) = some ((cn f).1, (cn f).2) :=
  parse_textOf hm hp2 (cn_ne hp h)
theorem cn_cn {f : Nat → Bool} {m p : Nat} (hp : 0 < p) (h : Per f m p) : cn (hasB (cn f).1 (cn f).2) = cn f := by rw [cn_has hp h]
theorem parse_per {s : List UInt8} {a b : List Bool} (h : parse s = some (a, b)) : 0 < b.length ∧ Per (hasB a b) a.length b.length := ⟨List.length_pos_iff.2 (parse_some h).2.2, hasB_per a b⟩
theorem parse_tdy {s : List UInt8} {a b : List Bool} (h : parse s = some (a, b)) : parse (chrs (tdy s).1) = some ((cn (hasB a b)).1, (cn (hasB a b)).2) := by
  obtain ⟨h1, h2⟩ := parse_per h
  have h3 := (cn_spec h1 h2).2.2
  have h4 := parse_some h
  rw [tdy_some h]
  exact parse_cn h1 h2 (by omega) (by omega)
theorem tdy_tdy {s : List UInt8} {a b : List Bool} (h : parse s = some (a, b)) : tdy (chrs (tdy s).1) = tdy s := by
  obtain ⟨h1, h2⟩ := parse_per h
  rw [tdy_some (parse_tdy h), tdy_some h, cn_cn h1 h2]
theorem tdy_size {s : List UInt8} {a b : List Bool} (h : parse s = some (a, b)) : (tdy s).1.size ≤ s.length := by
  obtain ⟨h1, h2⟩ := parse_per h
  have h3 := (cn_spec h1 h2).2.2
  rw [tdy_some h, textOf_size, parse_len h]
  show (cn (hasB a b)).1.length + _ + 2 ≤ _
  omega
/-- Whether two texts tell the same set. -/
noncomputable def sameS (s t : List UInt8) : Bool := (tdy s).2 && (tdy t).2 && ((tdy s).1.toList == (tdy t).1.toList)
theorem tdy_ok {s : List UInt8} : (tdy s).2 = (parse s).isSome := by
  cases h : parse s with
  | none => rw [tdy_none h]; rfl
  | some ab => rw [tdy_some (a := ab.1) (b := ab.2) h]; rfl
theorem sameS_comm (s t : List UInt8) : sameS s t = sameS t s := by
  unfold sameS
  have e : ((tdy s).1.toList == (tdy t).1.toList) = ((tdy t).1.toList == (tdy s).1.toList) := by
    rw [Bool.eq_iff_iff, beq_iff_eq, beq_iff_eq]; exact eq_comm
  rw [e, Bool.and_comm (tdy s).2]
theorem toList_inj {a b : ByteArray} (h : a.toList = b.toList) : a = b := by
  rw [ByteArray.toList_eq, ByteArray.toList_eq] at h
  exact chrs_inj h
theorem sameS_some {s t : List UInt8} {a b c d : List Bool} (h : parse s = some (a, b)) (h' : parse t = some (c, d)) : sameS s t = true ↔ hasB a b = hasB c d := by
  obtain ⟨h1, h2⟩ := parse_per h
  obtain ⟨h1', h2'⟩ := parse_per h'
  have s1 := cn_spec h1 h2
  have s2 := cn_spec h1' h2'
  have q1 := parse_some h
  have q2 := parse_some h'
  unfold sameS
  rw [tdy_some h, tdy_some h']
  simp only [Bool.true_and, Bool.and_true, beq_iff_eq]
  constructor
  · intro e
    have := textOf_inj (by omega) (by omega) (cn_ne h1 h2) (by omega) (by omega) (cn_ne h1' h2') (toList_inj e)
    rw [← s1.2.1, ← s2.2.1, this.1, this.2]
  · intro e; rw [e]

end Go.Proofs.Ytneadgionjlicaa.P

-- Two sets together: from which number on, and by how many, both come again.
namespace Go.Proofs.Ytneadgionjlicaa.P
open Go.RowKit Go.Proofs.YtneadgionjlicaaW.PrintWords Go.Proofs.YtneadgionjlicaaW.PrintLast Go.Proofs.YtneadgionjlicaaW.PrintMore
set_option linter.unusedVariables false
set_option linter.unusedSimpArgs false

/-- Whether something holds. -/
noncomputable def dec (p : Prop) : Bool := @decide p (Classical.propDecidable p)
theorem dec_iff {p : Prop} : dec p = true ↔ p := by unfold dec; exact @decide_eq_true_iff p (Classical.propDecidable p)
theorem dec_true {p : Prop} (h : p) : dec p = true := dec_iff.2 h
theorem dec_false {p : Prop} (h : ¬ p) : dec p = false := by
  cases e : dec p with
  | false => rfl
  | true => exact absurd (dec_iff.1 e) h
theorem dec_congr {p q : Prop} (h : p ↔ q) : dec p = dec q := by rw [show p = q from propext h]
theorem Per.lcm_left {f : Nat → Bool} {m p : Nat} (h : Per f m p) (m' p' : Nat) : Per f (max m m') (Nat.lcm p p') := (h.mono (by omega)).dvd (Nat.dvd_lcm_left p p')
theorem Per.lcm_right {f : Nat → Bool} {m p : Nat} (h : Per f m p) (m' p' : Nat) : Per f (max m' m) (Nat.lcm p' p) := (h.mono (by omega)).dvd (Nat.dvd_lcm_right p' p)
theorem per_all {f g : Nat → Bool} {m p : Nat} (hp : 0 < p) (hf : Per f m p) (hg : Per g m p) {q : Bool → Bool → Prop} (h : ∀ n, n < m + p → q (f n) (g n)) : ∀ n, q (f n) (g n) := fun n => by
  rcases Nat.lt_or_ge n m with hn | hn
  · exact h n (by omega)
  · rw [hf.mod n hn, hg.mod n hn]
    exact h _ (by have := Nat.mod_lt (n - m) hp; omega)
theorem pair_per {f g : Nat → Bool} {m p : Nat} (hf : Per f m p) (hg : Per g m p) (q : Bool → Bool → Bool) : Per (fun n => q (f n) (g n)) m p := fun n hn => by
  show q (f (n + p)) (g (n + p)) = _
  rw [hf n hn, hg n hn]
theorem lcm_small {m n : Nat} (hm : m ≤ 60) (hn : n ≤ 60) : Nat.lcm m n ≤ 3600 := by
  have h1 : Nat.lcm m n ≤ m * n := by unfold Nat.lcm; exact Nat.div_le_self _ _
  have h2 : m * n ≤ 60 * 60 := Nat.mul_le_mul hm hn
  omega
/-- Whether each number of the first one is in the second one. -/
noncomputable def bel (s t : List UInt8) : Bool := (parse s).isSome && (parse t).isSome && dec (∀ n, setf s n = true → setf t n = true)
theorem bel_some {s t : List UInt8} {a b c d : List Bool} (h : parse s = some (a, b)) (h' : parse t = some (c, d)) : bel s t = dec (∀ n, hasB a b n = true → hasB c d n = true) := by
  unfold bel; rw [h, h', setf_some h, setf_some h']; rfl
theorem bel_none1 {s t : List UInt8} (h : parse s = none) : bel s t = false := by unfold bel; rw [h]; rfl
theorem bel_none2 {s t : List UInt8} (h : parse t = none) : bel s t = false := by unfold bel; rw [h]; simp
theorem sameS_none1 {s t : List UInt8} (h : parse s = none) : sameS s t = false := by unfold sameS; rw [tdy_none h]; rfl
theorem sameS_none2 {s t : List UInt8} (h : parse t = none) : sameS s t = false := by unfold sameS; rw [tdy_none h]; simp
theorem bel_same (s t : List UInt8) : (bel s t && bel t s) = sameS s t := by
  cases h : parse s with
  | none => rw [bel_none1 h, sameS_none1 h]; rfl
  | some ab =>
    cases h' : parse t with
    | none => rw [bel_none2 h', sameS_none2 h']; rfl
    | some cd =>
      rw [Bool.eq_iff_iff, Bool.and_eq_true, bel_some (a := ab.1) (b := ab.2) (c := cd.1) (d := cd.2) h h', bel_some (a := cd.1) (b := cd.2) (c := ab.1) (d := ab.2) h' h, dec_iff, dec_iff, sameS_some (a := ab.1) (b := ab.2) (c := cd.1) (d := cd.2) h h']
      constructor
      · rintro ⟨h1, h2⟩
        funext n
        rw [Bool.eq_iff_iff]
        exact ⟨h1 n, h2 n⟩
      · intro e; rw [e]; exact ⟨fun _ x => x, fun _ x => x⟩

/-- What a set of two ones is. -/
noncomputable def two (op : Bool → Bool → Bool) (s t : List UInt8) : ByteArray × Bool := if (parse s).isSome && (parse t).isSome then txt (cn fun n => op (setf s n) (setf t n)) else (⟨#[]⟩, false)

end Go.Proofs.Ytneadgionjlicaa.P

-- slices.IndexFunc and slices.ContainsFunc over a question that is answered.
namespace Go.Proofs.Ytneadgionjlicaa.P
open Go.RowKit Go.Proofs.YtneadgionjlicaaW.PrintWords Go.Proofs.YtneadgionjlicaaW.PrintLast Go.Proofs.YtneadgionjlicaaW.PrintMore
set_option linter.unusedVariables false
set_option linter.unusedSimpArgs false

/-- Whether a question holds of some number of a list. -/
noncomputable def anyI (l : List Int) (q : Int → Bool) : Bool := dec (∃ i : Nat, i < l.length ∧ q (rd l (i : Int)) = true)

set_option maxHeartbeats 8000000 in
set_option maxRecDepth 100000 in
theorem indexFunc_calls (l : List Int) (hl : l.length ≤ 1000000000000) (A : Option Addr) (c : Nat) (g : Nat) (lb : Array Value) (q : Int → Bool) (w : World) (hC : Kd.C (Kd.int .i64) w A l.length l) (hc : l.length ≤ c)
    (eg : ∀ args w, (callFunc g args).run Try.prog w = .ok (.enter g args) w)
    (hh : ∀ (W : World) (i : Nat), Below w.heap.size w W → i < l.length → Calls Try.prog g (#[.int .i64 (rd l (i : Int))] ++ lb) W fun e w' => e = .returned (.bool (q (rd l (i : Int)))) ∧ Below W.heap.size W w') :
    Calls Try.prog 82 #[.slice A l.length c, .func (.func g) #[] lb] w fun e w' => ∃ v : Int, e = .returned (.int .i64 v) ∧ decide (v ≥ 0) = anyI l q ∧ Below w.heap.size w w' := by
  have HC := Aside0.mk hC
  have HH := Aside0.mk hh
  have HLN := Aside0.mk hl
  clear hC hh hl
  go_enter Try.func82, Try.ntmps82
  go_wp2
  go_loopg [8] l.length (fun gg s8 wr => ∃ i : Nat, i ≤ l.length ∧ l.length - i ≤ gg ∧ s8 = .int .i64 i ∧ Aside0 (∀ j : Nat, j < i → q (rd l (j : Int)) = false) ∧ Aside0 (Below w.heap.size w wr))
  case atStart => exact ⟨0, Nat.zero_le _, by omega, rfl, ⟨fun j hj => by omega⟩, ⟨by repeat (first | exact Below.refl _ _ | apply below_drew1)⟩⟩
  case round =>
    obtain ⟨i, hi, hgg, rfl, HF, HB⟩ := hrel
    by_cases hlt : i < l.length
    · have HC1 := Aside0.mk (Kd.C_below HC.out HB.out)
      have p1 : (0 : Int) ≤ (i : Int) := by omega
      have q1 : (i : Int) < (l.length : Int) := by omega
      obtain ⟨ad1, e1, hx1⟩ := Kd.at_int HC1.out (i : Int) p1 q1
      rw [Int.toNat_natCast] at hx1
      have HCall := Aside0.mk (fun W hW => HH.out W i hW hlt)
      cases hv : q (rd l (i : Int)) with
      | true =>
        have HR : decide ((i : Int) ≥ 0) = anyI l q := by unfold anyI; rw [dec_true ⟨i, hlt, hv⟩]; simp
        have HRA := Aside0.mk HR
        rw [hv] at HCall
        clear hv HR
        cases e1
        go_wp2_with (go_at_fn g; refine (HCall.out _ (by repeat (first | exact HB.out | apply below_drew1))).mono ?_; rintro e w1 ⟨rfl, hd⟩; have HB1 := Aside0.mk (below_step (by repeat (first | exact HB.out | apply below_drew1)) hd); clear hd)
        go_ret
        exact ⟨_, rfl, HRA.out, HB1.out⟩
      | false =>
        have HV := Aside0.mk hv
        rw [hv] at HCall
        clear hv
        cases e1
        go_wp2_with (go_at_fn g; refine (HCall.out _ (by repeat (first | exact HB.out | apply below_drew1))).mono ?_; rintro e w1 ⟨rfl, hd⟩; have HB1 := Aside0.mk (below_step (by repeat (first | exact HB.out | apply below_drew1)) hd); clear hd)
        go_roundg (l.length - (i + 1))
        case measure => omega
        case rel => exact ⟨i + 1, by omega, by omega, congrArg (Value.int .i64) (wsucc (by have := HLN.out; omega)), ⟨fun j hj => by
          rcases Nat.lt_or_ge j i with h | h
          · exact HF.out j h
          · rw [show j = i by omega]; exact HV.out⟩, HB1⟩
    · have e : i = l.length := by omega
      subst e
      have HR : decide ((-1 : Int) ≥ 0) = anyI l q := by
        unfold anyI
        rw [dec_false (fun ⟨j, h1, h2⟩ => by rw [HF.out j h1] at h2; cases h2)]; rfl
      have HRA := Aside0.mk HR
      clear HR
      go_wp2
      go_ret
      exact ⟨_, rfl, HRA.out, HB.out⟩
set_option maxHeartbeats 8000000 in
set_option maxRecDepth 100000 in
theorem containsFunc_calls (l : List Int) (hl : l.length ≤ 1000000000000) (A : Option Addr) (c : Nat) (g : Nat) (lb : Array Value) (q : Int → Bool) (w : World) (hC : Kd.C (Kd.int .i64) w A l.length l) (hc : l.length ≤ c)
    (eg : ∀ args w, (callFunc g args).run Try.prog w = .ok (.enter g args) w)
    (hh : ∀ (W : World) (i : Nat), Below w.heap.size w W → i < l.length → Calls Try.prog g (#[.int .i64 (rd l (i : Int))] ++ lb) W fun e w' => e = .returned (.bool (q (rd l (i : Int)))) ∧ Below W.heap.size W w') :
    Calls Try.prog 69 #[.slice A l.length c, .func (.func g) #[] lb] w fun e w' => e = .returned (.bool (anyI l q)) ∧ Below w.heap.size w w' := by
  have HX := Aside0.mk (indexFunc_calls l hl A c g lb q w hC hc eg hh)
  clear hC hh hl
  go_enter Try.func69, Try.ntmps69
  go_wp2_with (go_at_call 82; refine HX.out.mono ?_; rintro e w1 ⟨v, rfl, hv, hd⟩; have HV := Aside0.mk hv; have HB := Aside0.mk hd; clear hv hd)
  go_ret
  exact ⟨by rw [← HV.out]; rfl, HB.out⟩
end Go.Proofs.Ytneadgionjlicaa.P

-- Sums of two sets.
namespace Go.Proofs.Ytneadgionjlicaa.P
open Go.RowKit Go.Proofs.YtneadgionjlicaaW.PrintWords Go.Proofs.YtneadgionjlicaaW.PrintLast Go.Proofs.YtneadgionjlicaaW.PrintMore
set_option linter.unusedVariables false
set_option linter.unusedSimpArgs false

/-- All sums of one of each. -/
noncomputable def sumq (f g : Nat → Bool) : Nat → Bool := fun n => dec (∃ k, k ≤ n ∧ f k = true ∧ g (n - k) = true)
theorem sumq_iff {f g : Nat → Bool} {n : Nat} : sumq f g n = true ↔ ∃ i j, i + j = n ∧ f i = true ∧ g j = true := by
  unfold sumq
  rw [dec_iff]
  constructor
  · rintro ⟨k, h1, h2, h3⟩; exact ⟨k, n - k, by omega, h2, h3⟩
  · rintro ⟨i, j, h1, h2, h3⟩; exact ⟨i, by omega, h2, by rw [show n - i = j by omega]; exact h3⟩
theorem per_back {f : Nat → Bool} {m p n : Nat} (h : Per f m p) (hn : m + p ≤ n) (hf : f n = true) : f (n - p) = true := by
  have := h (n - p) (by omega)
  rw [show n - p + p = n by omega] at this
  rw [← this]; exact hf
theorem per_fwd {f : Nat → Bool} {m p n : Nat} (h : Per f m p) (hn : m ≤ n) (hf : f n = true) : f (n + p) = true := by rw [h n hn]; exact hf
theorem sumq_per {f g : Nat → Bool} {m m' L : Nat} (hf : Per f m L) (hg : Per g m' L) : Per (sumq f g) (m + m' + L) L := fun n hn => by
  rw [Bool.eq_iff_iff, sumq_iff, sumq_iff]
  constructor
  · rintro ⟨i, j, h1, h2, h3⟩
    by_cases hi : m + L ≤ i
    · exact ⟨i - L, j, by omega, per_back hf hi h2, h3⟩
    · exact ⟨i, j - L, by omega, h2, per_back hg (by omega) h3⟩
  · rintro ⟨i, j, h1, h2, h3⟩
    by_cases hi : m ≤ i
    · exact ⟨i + L, j, by omega, per_fwd hf hi h2, h3⟩
    · exact ⟨i, j + L, by omega, h2, per_fwd hg (by omega) h3⟩
/-- All sums of two different ones. -/
noncomputable def dblq (f : Nat → Bool) : Nat → Bool := fun n => dec (∃ k, k ≤ n ∧ f k = true ∧ f (n - k) = true ∧ k ≠ n - k)
theorem dblq_iff {f : Nat → Bool} {n : Nat} : dblq f n = true ↔ ∃ i j, i + j = n ∧ i < j ∧ f i = true ∧ f j = true := by
  unfold dblq
  rw [dec_iff]
  constructor
  · rintro ⟨k, h1, h2, h3, h4⟩
    rcases Nat.lt_or_ge k (n - k) with h | h
    · exact ⟨k, n - k, by omega, h, h2, h3⟩
    · exact ⟨n - k, k, by omega, by omega, h3, h2⟩
  · rintro ⟨i, j, h1, h2, h3, h4⟩
    exact ⟨i, by omega, h3, by rw [show n - i = j by omega]; exact h4, by omega⟩
theorem dblq_iff' {f : Nat → Bool} {n : Nat} : dblq f n = dec (∃ k, 2 * k < n ∧ f k = true ∧ f (n - k) = true) := by
  rw [Bool.eq_iff_iff, dblq_iff, dec_iff]
  constructor
  · rintro ⟨i, j, h1, h2, h3, h4⟩; exact ⟨i, by omega, h3, by rw [show n - i = j by omega]; exact h4⟩
  · rintro ⟨k, h1, h2, h3⟩; exact ⟨k, n - k, by omega, by omega, h2, h3⟩
theorem dblq_per {f : Nat → Bool} {m L : Nat} (hf : Per f m L) : Per (dblq f) (2 * m + 2 * L) L := fun n hn => by
  rw [Bool.eq_iff_iff, dblq_iff, dblq_iff]
  constructor
  · rintro ⟨i, j, h1, h2, h3, h4⟩
    have h5 := per_back hf (show m + L ≤ j by omega) h4
    rcases Nat.lt_trichotomy i (j - L) with h | h | h
    · exact ⟨i, j - L, by omega, h, h3, h5⟩
    · rcases Nat.eq_zero_or_pos L with hL | hL
      · exact ⟨i, j, by omega, h2, h3, h4⟩
      · exact ⟨i - L, j, by omega, by omega, per_back hf (by omega) h3, h4⟩
    · exact ⟨j - L, i, by omega, h, h5, h3⟩
  · rintro ⟨i, j, h1, h2, h3, h4⟩
    exact ⟨i, j + L, by omega, by omega, h3, per_fwd hf (by omega) h4⟩
theorem sumq_comm (f g : Nat → Bool) : sumq f g = sumq g f := by
  funext n
  rw [Bool.eq_iff_iff, sumq_iff, sumq_iff]
  constructor
  · rintro ⟨i, j, h1, h2, h3⟩; exact ⟨j, i, by omega, h3, h2⟩
  · rintro ⟨i, j, h1, h2, h3⟩; exact ⟨j, i, by omega, h3, h2⟩
theorem sumq_or (f g h : Nat → Bool) : sumq (fun n => f n || g n) h = fun n => sumq f h n || sumq g h n := by
  funext n
  rw [Bool.eq_iff_iff, Bool.or_eq_true, sumq_iff, sumq_iff, sumq_iff]
  constructor
  · rintro ⟨i, j, h1, h2, h3⟩
    rcases Bool.or_eq_true_iff.1 h2 with h2 | h2
    · exact .inl ⟨i, j, h1, h2, h3⟩
    · exact .inr ⟨i, j, h1, h2, h3⟩
  · rintro (⟨i, j, h1, h2, h3⟩ | ⟨i, j, h1, h2, h3⟩)
    · exact ⟨i, j, h1, by rw [h2]; rfl, h3⟩
    · exact ⟨i, j, h1, by rw [h2, Bool.or_true], h3⟩
/-- A tidy small set. -/
def Small (t : List Bool × List Bool) : Prop := t.1.length ≤ 8 ∧ t.2.length ≤ 8
noncomputable def smallB (s : List UInt8) : Bool := (parse s).isSome && dec (Small (cn (setf s)))
theorem smallB_ok {s : List UInt8} (h : smallB s = true) : ∃ a b, parse s = some (a, b) ∧ setf s = hasB a b ∧ (cn (setf s)).1.length ≤ 8 ∧ (cn (setf s)).2.length ≤ 8 ∧ 0 < (cn (setf s)).2.length ∧ Per (setf s) (cn (setf s)).1.length (cn (setf s)).2.length := by
  unfold smallB at h
  rw [Bool.and_eq_true, dec_iff] at h
  obtain ⟨⟨a, b⟩, hp⟩ := Option.isSome_iff_exists.1 h.1
  obtain ⟨p1, p2⟩ := parse_per hp
  have hset := setf_some hp
  have hper := hasB_per (cn (setf s)).1 (cn (setf s)).2
  have hs := cn_spec p1 p2
  rw [← hset] at hs
  rw [hs.2.1] at hper
  exact ⟨a, b, hp, hset, h.2.1, h.2.2, List.length_pos_iff.2 hs.1.1.1, hper⟩
/-- What SumOf answers. -/
noncomputable def smr (s t : List UInt8) : ByteArray × Bool := if smallB s && smallB t then txt (cn (sumq (setf s) (setf t))) else (⟨#[]⟩, false)
/-- What SumDouble answers. -/
noncomputable def dbr (s : List UInt8) : ByteArray × Bool := if smallB s then txt (cn (dblq (setf s))) else (⟨#[]⟩, false)
theorem lcm_le8 {m n : Nat} (h0 : 0 < m) (h0' : 0 < n) (hm : m ≤ 8) (hn : n ≤ 8) : Nat.lcm m n ≤ 56 := by
  have hd := Nat.gcd_dvd_left m n
  rcases Nat.lt_or_ge (m * n) 57 with h | h
  · have : Nat.lcm m n ≤ m * n := by unfold Nat.lcm; exact Nat.div_le_self _ _
    omega
  · have : m = 8 ∧ n = 8 := by
      constructor
      · refine Classical.byContradiction fun hne => ?_
        have : m * n ≤ 7 * 8 := Nat.mul_le_mul (by omega) hn
        omega
      · refine Classical.byContradiction fun hne => ?_
        have : m * n ≤ 8 * 7 := Nat.mul_le_mul hm (by omega)
        omega
    rw [this.1, this.2]; decide
end Go.Proofs.Ytneadgionjlicaa.P

-- The star of a set: from some number on it comes again by its least number.
namespace Go.Proofs.Ytneadgionjlicaa.P
open Go.RowKit Go.Proofs.YtneadgionjlicaaW.PrintWords Go.Proofs.YtneadgionjlicaaW.PrintLast Go.Proofs.YtneadgionjlicaaW.PrintMore
set_option linter.unusedVariables false
set_option linter.unusedSimpArgs false

/-- A list of numbers above 0 of a set. -/
def Parts (f : Nat → Bool) (l : List Nat) : Prop := ∀ a, a ∈ l → 0 < a ∧ f a = true
def St (f : Nat → Bool) (n : Nat) : Prop := ∃ l, Parts f l ∧ l.sum = n
theorem St.zero (f : Nat → Bool) : St f 0 := ⟨[], fun a h => by simp at h, rfl⟩
theorem St.of {f : Nat → Bool} {a : Nat} (h0 : 0 < a) (h : f a = true) : St f a := ⟨[a], fun b hb => by rw [List.mem_singleton.1 hb]; exact ⟨h0, h⟩, by simp⟩
theorem St.add {f : Nat → Bool} {n m : Nat} (h : St f n) (h' : St f m) : St f (n + m) := by
  obtain ⟨l, h1, rfl⟩ := h
  obtain ⟨r, h2, rfl⟩ := h'
  exact ⟨l ++ r, fun a ha => (List.mem_append.1 ha).elim (h1 a) (h2 a), by simp⟩
theorem St.mul {f : Nat → Bool} {n : Nat} (h : St f n) : ∀ k, St f (k * n)
  | 0 => by rw [Nat.zero_mul]; exact St.zero f
  | k + 1 => by rw [Nat.succ_mul]; exact (St.mul h k).add h
theorem parts_cons {f : Nat → Bool} {a : Nat} {l : List Nat} : Parts f (a :: l) ↔ (0 < a ∧ f a = true) ∧ Parts f l := by
  constructor
  · intro h; exact ⟨h a (by simp), fun b hb => h b (by simp [hb])⟩
  · rintro ⟨h1, h2⟩ b hb
    rcases List.mem_cons.1 hb with rfl | hb
    · exact h1
    · exact h2 b hb
theorem St.step {f : Nat → Bool} {n : Nat} (h : St f n) (hn : 0 < n) : ∃ k, 1 ≤ k ∧ k ≤ n ∧ f k = true ∧ St f (n - k) := by
  obtain ⟨l, h1, rfl⟩ := h
  cases l with
  | nil => simp at hn
  | cons a l =>
    obtain ⟨⟨h2, h3⟩, h4⟩ := parts_cons.1 h1
    rw [List.sum_cons]
    exact ⟨a, h2, by omega, h3, l, h4, by omega⟩
theorem St.iff {f : Nat → Bool} {n : Nat} (hn : 0 < n) : St f n ↔ ∃ k, 1 ≤ k ∧ k ≤ n ∧ f k = true ∧ St f (n - k) := by
  constructor
  · intro h; exact h.step hn
  · rintro ⟨k, h1, h2, h3, h4⟩
    have := (St.of (by omega) h3).add h4
    rwa [show k + (n - k) = n by omega] at this
/-- Whether a number is in the star. -/
noncomputable def stq (f : Nat → Bool) : Nat → Bool := fun n => dec (St f n)
theorem stq_iff {f : Nat → Bool} {n : Nat} : stq f n = true ↔ St f n := dec_iff
theorem pigeon : ∀ (d : Nat) (g : Nat → Nat), (∀ i, i ≤ d → g i < d) → ∃ i j, i < j ∧ j ≤ d ∧ g i = g j := by
  intro d
  induction d with
  | zero => intro g h; have := h 0 (Nat.le_refl _); omega
  | succ d ih =>
    intro g h
    by_cases hx : ∃ i, i ≤ d ∧ g i = g (d + 1)
    · obtain ⟨i, h1, h2⟩ := hx
      exact ⟨i, d + 1, by omega, Nat.le_refl _, h2⟩
    · have hne : ∀ i, i ≤ d → g i ≠ g (d + 1) := fun i hi e => hx ⟨i, hi, e⟩
      obtain ⟨i, j, h1, h2, h3⟩ := ih (fun i => if g i = d then g (d + 1) else g i) (fun i hi => by
        have a := h i (by omega)
        have b := h (d + 1) (Nat.le_refl _)
        have c := hne i hi
        show (if g i = d then g (d + 1) else g i) < d
        split <;> omega)
      refine ⟨i, j, h1, by omega, ?_⟩
      have a := hne i (by omega)
      have b := hne j h2
      by_cases c1 : g i = d
      · by_cases c2 : g j = d
        · rw [c1, c2]
        · simp only [if_pos c1, if_neg c2] at h3; omega
      · by_cases c2 : g j = d
        · simp only [if_neg c1, if_pos c2] at h3; omega
        · simp only [if_neg c1, if_neg c2] at h3; exact h3
theorem sum_take_drop (l : List Nat) (i : Nat) : (l.take i).sum + (l.drop i).sum = l.sum := by
  rw [← List.sum_append, List.take_append_drop]
theorem sum_pos {f : Nat → Bool} {l : List Nat} (h : Parts f l) (hn : l ≠ []) : 0 < l.sum := by
  cases l with
  | nil => exact absurd rfl hn
  | cons a l => have := (parts_cons.1 h).1.1; rw [List.sum_cons]; omega
/-- Of a long list a piece is a multiple of q. -/
theorem parts_cut {f : Nat → Bool} {q : Nat} (hq : 0 < q) {l : List Nat} (h : Parts f l) (hl : q + 1 ≤ l.length) : ∃ e, 0 < e ∧ q * e < l.sum ∧ St f (l.sum - q * e) := by
  obtain ⟨i, j, h1, h2, h3⟩ := pigeon q (fun i => (l.take i).sum % q) (fun i _ => Nat.mod_lt _ hq)
  have h3 : (l.take i).sum % q = (l.take j).sum % q := h3
  have hij : (l.take j).sum = (l.take i).sum + ((l.drop i).take (j - i)).sum := by
    rw [← List.sum_append]
    congr 1
    have e := List.take_append_drop i (l.take j)
    rw [List.take_take, Nat.min_eq_left (by omega), List.drop_take] at e
    exact e.symm
  have hc : ((l.drop i).take (j - i)).sum % q = 0 := by
    rw [hij, Nat.add_mod] at h3
    have a := Nat.mod_lt ((l.take i).sum) hq
    have b := Nat.mod_lt (((l.drop i).take (j - i)).sum) hq
    rcases Nat.lt_or_ge ((l.take i).sum % q + ((l.drop i).take (j - i)).sum % q) q with c | c
    · rw [Nat.mod_eq_of_lt c] at h3; omega
    · have : ((l.take i).sum % q + ((l.drop i).take (j - i)).sum % q) % q = (l.take i).sum % q + ((l.drop i).take (j - i)).sum % q - q := by
        rw [Nat.mod_eq_sub_mod c, Nat.mod_eq_of_lt (by omega)]
      rw [this] at h3; omega
  have hsub : ∀ {r : List Nat}, (∀ a, a ∈ r → a ∈ l) → Parts f r := fun hr a ha => h a (hr a ha)
  have p1 : Parts f (l.take i) := hsub fun a ha => List.mem_of_mem_take ha
  have p2 : Parts f ((l.drop i).take (j - i)) := hsub fun a ha => List.mem_of_mem_drop (List.mem_of_mem_take ha)
  have p3 : Parts f (l.drop j) := hsub fun a ha => List.mem_of_mem_drop ha
  have hpos : 0 < ((l.drop i).take (j - i)).sum := sum_pos p2 (by
    intro e
    have := congrArg List.length e
    rw [List.length_take, List.length_drop, List.length_nil] at this
    omega)
  have hpos3 : 0 < (l.drop j).sum := sum_pos p3 (by
    intro e
    have := congrArg List.length e
    rw [List.length_drop, List.length_nil] at this
    omega)
  have htot := sum_take_drop l j
  obtain ⟨e, he⟩ := Nat.dvd_of_mod_eq_zero hc
  have hst : St f ((l.take i).sum + (l.drop j).sum) := St.add ⟨_, p1, rfl⟩ ⟨_, p3, rfl⟩
  refine ⟨e, ?_, by omega, ?_⟩
  · rcases Nat.eq_zero_or_pos e with rfl | x
    · rw [Nat.mul_zero] at he; omega
    · exact x
  · rw [show l.sum - q * e = (l.take i).sum + (l.drop j).sum by omega]
    exact hst
theorem sum_bound {l : List Nat} {G : Nat} (h : ∀ a, a ∈ l → a ≤ G) : l.sum ≤ l.length * G := by
  induction l with
  | nil => simp
  | cons a l ih =>
    have := ih fun b hb => h b (by simp [hb])
    have := h a (by simp)
    rw [List.sum_cons, List.length_cons, Nat.succ_mul]; omega
/-- If what is above 0 goes on by q, and a great part is another one and q times some number: behind some number one may take q away. -/
theorem St.back {f : Nat → Bool} {q G : Nat} (hq : 0 < q) (h1 : ∀ n, 0 < n → St f n → St f (n + q)) (h2 : ∀ a, G < a → f a = true → ∃ a' e, 0 < a' ∧ 0 < e ∧ a' + q * e = a ∧ f a' = true) {n : Nat} (hn : q * G < n) (h : St f n) : St f (n - q) := by
  have up : ∀ e m, 0 < m → St f m → St f (m + q * e) := by
    intro e
    induction e with
    | zero => intro m _ hs; rw [Nat.mul_zero, Nat.add_zero]; exact hs
    | succ e ih =>
      intro m hm hs
      have := h1 _ (by omega) (ih m hm hs)
      rwa [Nat.add_assoc, ← Nat.mul_succ] at this
  obtain ⟨l, hl, rfl⟩ := h
  by_cases hlen : q + 1 ≤ l.length
  · obtain ⟨e, he, hlt, hs⟩ := parts_cut hq hl hlen
    have := up (e - 1) _ (by omega) hs
    have he2 : q * e = q * (e - 1) + q := by rw [← Nat.mul_succ]; congr 1; omega
    rwa [show l.sum - q * e + q * (e - 1) = l.sum - q by omega] at this
  · by_cases hall : ∀ a, a ∈ l → a ≤ G
    · have b1 := sum_bound hall
      have b2 : l.length * G ≤ q * G := Nat.mul_le_mul_right G (by omega)
      omega
    · obtain ⟨a, ha, hG⟩ : ∃ a, a ∈ l ∧ G < a := by
        refine Classical.byContradiction fun hno => hall fun a ha => ?_
        rcases Nat.lt_or_ge G a with x | x
        · exact absurd ⟨a, ha, x⟩ hno
        · exact x
      obtain ⟨a', e, h3, h4, h5, h6⟩ := h2 a hG (hl a ha).2
      obtain ⟨x, y, rfl⟩ := List.append_of_mem ha
      have hx : Parts f (x ++ a' :: y) := by
        intro b hb
        rcases List.mem_append.1 hb with c | c
        · exact hl b (List.mem_append.2 (.inl c))
        · rcases List.mem_cons.1 c with rfl | c
          · exact ⟨h3, h6⟩
          · exact hl b (List.mem_append.2 (.inr (List.mem_cons.2 (.inr c))))
      have hs : St f (x ++ a' :: y).sum := ⟨_, hx, rfl⟩
      have e1 : (x ++ a :: y).sum = x.sum + (a + y.sum) := by rw [List.sum_append, List.sum_cons]
      have e2 : (x ++ a' :: y).sum = x.sum + (a' + y.sum) := by rw [List.sum_append, List.sum_cons]
      rw [e2] at hs
      have := up (e - 1) _ (by omega) hs
      have he2 : q * e = q * (e - 1) + q := by rw [← Nat.mul_succ]; congr 1; omega
      rw [e1]
      rwa [show x.sum + (a' + y.sum) + q * (e - 1) = x.sum + (a + y.sum) - q by omega] at this
theorem per_sub {f : Nat → Bool} {m p : Nat} (h : Per f m p) : ∀ k a, m + k * p ≤ a → f a = true → f (a - k * p) = true
  | 0, a, _, hf => by rw [Nat.zero_mul, Nat.sub_zero]; exact hf
  | k + 1, a, ha, hf => by
    rw [Nat.succ_mul] at ha ⊢
    have := per_sub h k a (by omega) hf
    have := per_back h (by omega) this
    rwa [Nat.sub_sub] at this
/-- THE STAR COMES AGAIN by the least number of a small set. -/
theorem stq_per {f : Nat → Bool} {m p d : Nat} (hm : m ≤ 8) (hp : 0 < p) (hp8 : p ≤ 8) (hper : Per f m p) (hd : 0 < d) (hfd : f d = true) (hmin : ∀ k, 0 < k → k < d → f k = false) : Per (stq f) 584 d := by
  have hSd : St f d := St.of hd hfd
  by_cases h8 : d ≤ 8
  · have hpd : p * d ≤ 8 * 8 := Nat.mul_le_mul hp8 h8
    have hq := fun n (hn : 584 < n) (h : St f n) => St.back (G := m + p * d) hd (fun n _ h => h.add hSd) (fun a ha hf => by
      have hc : d * p = p * d := Nat.mul_comm _ _
      have := per_sub hper d a (by omega) hf
      exact ⟨a - d * p, p, by omega, hp, by omega, this⟩) (n := n) (by
        have : d * (m + p * d) ≤ 8 * (8 + 64) := Nat.mul_le_mul h8 (by omega)
        omega) h
    intro n hn
    rw [Bool.eq_iff_iff, stq_iff, stq_iff]
    constructor
    · intro h
      have := hq _ (by omega) h
      rwa [Nat.add_sub_cancel] at this
    · intro h; exact h.add hSd
  · have hge : ∀ a, 0 < a → f a = true → d ≤ a := fun a h0 ha => by
      rcases Nat.lt_or_ge a d with x | x
      · rw [hmin a h0 x] at ha; cases ha
      · exact x
    have hup : ∀ n, 0 < n → St f n → St f (n + p) := by
      intro n hn h
      obtain ⟨k, h1, h2, h3, h4⟩ := h.step hn
      have h5 := per_fwd hper (show m ≤ k by have := hge k (by omega) h3; omega) h3
      have := (St.of (show 0 < k + p by omega) h5).add h4
      rwa [show k + p + (n - k) = n + p by omega] at this
    have hq := fun n (hn : 128 < n) (h : St f n) => St.back (G := m + p) hp hup (fun a ha hf => by
      have h1 := hge a (by omega) hf
      exact ⟨a - p, 1, by omega, by omega, by rw [Nat.mul_one]; omega, per_back hper (by omega) hf⟩) (n := n) (by
        have : p * (m + p) ≤ 8 * 16 := Nat.mul_le_mul hp8 (by omega)
        omega) h
    have hper2 : Per (stq f) 584 p := by
      intro n hn
      rw [Bool.eq_iff_iff, stq_iff, stq_iff]
      constructor
      · intro h
        have := hq _ (by omega) h
        rwa [Nat.add_sub_cancel] at this
      · intro h; exact hup n (by omega) h
    intro n hn
    rw [Bool.eq_iff_iff]
    constructor
    · intro h
      rw [stq_iff] at h
      have h2 := (h.add (hSd.mul (p - 1)))
      have h3 := hper2.mul d n hn
      rw [← stq_iff] at h2
      have e : n + d + (p - 1) * d = n + d * p := by
        have : p * d = (p - 1) * d + d := by rw [← Nat.succ_mul]; congr 1; omega
        rw [Nat.mul_comm d p]; omega
      rw [e, h3] at h2; exact h2
    · intro h
      rw [stq_iff] at h ⊢
      exact h.add hSd
theorem stq_none {f : Nat → Bool} (h : ∀ k, 0 < k → f k = false) : stq f = fun n => decide (n = 0) := by
  funext n
  rcases Nat.eq_zero_or_pos n with rfl | hn
  · rw [stq_iff.2 (St.zero f)]; rfl
  · rw [decide_eq_false (by omega)]
    cases hx : stq f n with
    | false => rfl
    | true =>
      obtain ⟨k, h1, _, h3, _⟩ := (stq_iff.1 hx).step hn
      rw [h k (by omega)] at h3; cases h3
theorem stq_idem (f : Nat → Bool) : stq (stq f) = stq f := by
  funext n
  rw [Bool.eq_iff_iff, stq_iff, stq_iff]
  constructor
  · rintro ⟨l, h1, rfl⟩
    induction l with
    | nil => exact St.zero f
    | cons a l ih =>
      obtain ⟨⟨_, h2⟩, h3⟩ := parts_cons.1 h1
      rw [List.sum_cons]
      exact (stq_iff.1 h2).add (ih h3)
  · intro h
    rcases Nat.eq_zero_or_pos n with rfl | hn
    · exact St.zero _
    · exact St.of hn (stq_iff.2 h)
theorem stq_or (f g : Nat → Bool) : stq (fun n => f n || g n) = sumq (stq f) (stq g) := by
  funext n
  rw [Bool.eq_iff_iff, stq_iff, sumq_iff]
  constructor
  · rintro ⟨l, h1, rfl⟩
    induction l with
    | nil => exact ⟨0, 0, rfl, stq_iff.2 (St.zero f), stq_iff.2 (St.zero g)⟩
    | cons a l ih =>
      obtain ⟨⟨h0, h2⟩, h3⟩ := parts_cons.1 h1
      obtain ⟨i, j, e, hi, hj⟩ := ih h3
      rw [List.sum_cons]
      rcases Bool.or_eq_true_iff.1 h2 with h2 | h2
      · exact ⟨a + i, j, by omega, stq_iff.2 ((St.of h0 h2).add (stq_iff.1 hi)), hj⟩
      · exact ⟨i, a + j, by omega, hi, stq_iff.2 ((St.of h0 h2).add (stq_iff.1 hj))⟩
  · rintro ⟨i, j, rfl, hi, hj⟩
    have mono : ∀ (u v : Nat → Bool) m, (∀ k, u k = true → v k = true) → St u m → St v m := fun u v m h hs => by
      obtain ⟨l, h1, rfl⟩ := hs
      exact ⟨l, fun a ha => ⟨(h1 a ha).1, h a (h1 a ha).2⟩, rfl⟩
    exact (mono f _ i (fun k h => by rw [h]; rfl) (stq_iff.1 hi)).add (mono g _ j (fun k h => by rw [h, Bool.or_true]) (stq_iff.1 hj))
end Go.Proofs.Ytneadgionjlicaa.P

-- Machines: the states after so many steps come again from some place on.
namespace Go.Proofs.Ytneadgionjlicaa.P
open Go.RowKit Go.Proofs.YtneadgionjlicaaW.PrintWords Go.Proofs.YtneadgionjlicaaW.PrintLast Go.Proofs.YtneadgionjlicaaW.PrintMore
set_option linter.unusedVariables false
set_option linter.unusedSimpArgs false

theorem nor_nat {a b : Nat} (ha : a < 2 ^ 62) (hb : b < 2 ^ 62) : Go.bits .or .i64 (a : Int) (b : Int) = ((a ||| b : Nat) : Int) := by
  have ha' : a % 2 ^ IntKind.i64.bits = a := Nat.mod_eq_of_lt (by show a < 2 ^ 64; omega)
  have hb' : b % 2 ^ IntKind.i64.bits = b := Nat.mod_eq_of_lt (by show b < 2 ^ 64; omega)
  have hx := Nat.or_lt_two_pow ha hb
  simp only [Go.bits, BitVec.ofInt_natCast, BitVec.toNat_or, BitVec.toNat_ofNat, ha', hb']
  rw [IntKind.wrap_i64]
  omega
theorem shl_pow {i : Nat} (h : i ≤ 61) : shl .i64 1 (i : Int) = ((2 ^ i : Nat) : Int) := by
  have hb : IntKind.i64.bits = 64 := rfl
  have h2 : 2 ^ i ≤ 2 ^ 61 := Nat.pow_le_pow_right (by omega) h
  unfold shl
  rw [Int.toNat_natCast, hb, Nat.min_eq_left (by omega), Int.one_mul, IntKind.wrap_i64]
  have e : (2 : Int) ^ i = ((2 ^ i : Nat) : Int) := by rw [Int.natCast_pow]; rfl
  rw [e]
  generalize 2 ^ i = p at *
  omega
/-- The states met from the first i states. -/
def nxs (l : List Int) (x : Int) : Nat → Int
  | 0 => 0
  | i + 1 => if Go.bits .and .i64 (shr .i64 x (i : Int)) 1 = 1 then Go.bits .or .i64 (nxs l x i) (rd l (i : Int)) else nxs l x i
/-- All states to which one may step. -/
def nxt (l : List Int) (x : Int) : Int := nxs l x l.length
/-- A list of sets of so many states. -/
def Stt (l : List Int) (n : Nat) : Prop := ∀ i : Nat, i < l.length → ∃ v : Nat, rd l (i : Int) = (v : Int) ∧ v < 2 ^ n
theorem nxs_in {l : List Int} {n : Nat} (hn : n ≤ 60) (h : Stt l n) (x : Int) : ∀ i : Nat, i ≤ l.length → ∃ v : Nat, nxs l x i = (v : Int) ∧ v < 2 ^ n
  | 0, _ => ⟨0, rfl, Nat.two_pow_pos n⟩
  | i + 1, hi => by
    obtain ⟨v, h1, h2⟩ := nxs_in hn h x i (by omega)
    obtain ⟨u, h3, h4⟩ := h i (by omega)
    have hp : 2 ^ n ≤ 2 ^ 60 := Nat.pow_le_pow_right (by omega) hn
    rw [nxs]
    split
    · rw [h1, h3, nor_nat (by omega) (by omega)]
      exact ⟨_, rfl, Nat.or_lt_two_pow h2 h4⟩
    · exact ⟨v, h1, h2⟩
theorem nxt_in {l : List Int} {n : Nat} (hn : n ≤ 60) (h : Stt l n) (x : Int) : ∃ v : Nat, nxt l x = (v : Int) ∧ v < 2 ^ n := nxs_in hn h x _ (Nat.le_refl _)
/-- The states after i steps. -/
def orb (l : List Int) (st : Int) : Nat → Int
  | 0 => st
  | i + 1 => nxt l (orb l st i)
theorem orb_in {l : List Int} {st : Int} {n : Nat} (hn : n ≤ 60) (h : Stt l n) (hs : ∃ v : Nat, st = (v : Int) ∧ v < 2 ^ n) : ∀ i, ∃ v : Nat, orb l st i = (v : Int) ∧ v < 2 ^ n
  | 0 => hs
  | i + 1 => nxt_in hn h _
/-- Whether a machine takes a number. -/
def mq (l : List Int) (st en : Int) : Nat → Bool := fun n => Go.bits .and .i64 (orb l st n) en != 0
/-- The first time T at which a set of states comes again, and the time F at which it came. -/
structure Shape (l : List Int) (st : Int) (T F : Nat) : Prop where
  lt : F < T
  same : orb l st T = orb l st F
  new : ∀ i j, i < j → j < T → orb l st i ≠ orb l st j
theorem least_of {p : Nat → Prop} : ∀ n, p n → ∃ m, m ≤ n ∧ p m ∧ ∀ k, k < m → ¬ p k := by
  intro n
  induction n using Nat.strongRecOn with
  | ind n ih =>
    intro h
    rcases Classical.em (∃ k, k < n ∧ p k) with ⟨k, h1, h2⟩ | h1
    · obtain ⟨m, a, b, c⟩ := ih k h1 h2
      exact ⟨m, by omega, b, c⟩
    · exact ⟨n, Nat.le_refl _, h, fun k hk hp => h1 ⟨k, hk, hp⟩⟩
theorem shape_of {l : List Int} {st : Int} {n : Nat} (hn : n ≤ 60) (h : Stt l n) (hs : ∃ v : Nat, st = (v : Int) ∧ v < 2 ^ n) : ∃ T F, Shape l st T F ∧ T ≤ 2 ^ n := by
  have hin := orb_in hn h hs
  have hnat : ∀ i, orb l st i = ((orb l st i).toNat : Int) ∧ (orb l st i).toNat < 2 ^ n := fun i => by
    obtain ⟨v, h1, h2⟩ := hin i
    rw [h1, Int.toNat_natCast]; exact ⟨rfl, h2⟩
  obtain ⟨i, j, h1, h2, h3⟩ := pigeon (2 ^ n) (fun i => (orb l st i).toNat) (fun i _ => (hnat i).2)
  have h3 : (orb l st i).toNat = (orb l st j).toNat := h3
  have h4 : orb l st j = orb l st i := by rw [(hnat j).1, (hnat i).1, h3]
  obtain ⟨T, a, ⟨F, b, c⟩, d⟩ := least_of (p := fun T => ∃ F, F < T ∧ orb l st T = orb l st F) j ⟨i, h1, h4⟩
  exact ⟨T, F, ⟨b, c, fun i j hij hj e => d j hj ⟨i, hij, e.symm⟩⟩, by omega⟩
theorem Shape.orb_per {l : List Int} {st : Int} {T F : Nat} (h : Shape l st T F) : ∀ d, orb l st (F + d + (T - F)) = orb l st (F + d)
  | 0 => by have := h.lt; rw [show F + 0 + (T - F) = T by omega]; exact h.same
  | d + 1 => by
    rw [show F + (d + 1) + (T - F) = F + d + (T - F) + 1 by omega, show F + (d + 1) = F + d + 1 by omega]
    show nxt l _ = nxt l _
    rw [h.orb_per d]
theorem Shape.per {l : List Int} {st : Int} {T F : Nat} (h : Shape l st T F) (en : Int) : Per (mq l st en) F (T - F) := fun n hn => by
  unfold mq
  have := h.orb_per (n - F)
  rw [show F + (n - F) = n by omega] at this
  rw [this]
/-- The states of the first i times. -/
def orbs (l : List Int) (st : Int) (i : Nat) : List Int := (List.range i).map (orb l st)
theorem orbs_length (l : List Int) (st : Int) (i : Nat) : (orbs l st i).length = i := by simp [orbs]
theorem orbs_succ (l : List Int) (st : Int) (i : Nat) : orbs l st (i + 1) = orbs l st i ++ [orb l st i] := by simp [orbs, List.range_succ]
theorem orbs_rd (l : List Int) (st : Int) {i j : Nat} (h : j < i) : rd (orbs l st i) (j : Int) = orb l st j := by
  simp [rd, orbs, List.getD_eq_getElem?_getD, h]
end Go.Proofs.Ytneadgionjlicaa.P

-- Machines of pairs: which take what both take.
namespace Go.Proofs.Ytneadgionjlicaa.P
open Go.RowKit Go.Proofs.YtneadgionjlicaaW.PrintWords Go.Proofs.YtneadgionjlicaaW.PrintLast Go.Proofs.YtneadgionjlicaaW.PrintMore
set_option linter.unusedVariables false
set_option linter.unusedSimpArgs false

theorem nand_nat {a b : Nat} (ha : a < 2 ^ 62) (hb : b < 2 ^ 62) : Go.bits .and .i64 (a : Int) (b : Int) = ((a &&& b : Nat) : Int) := by
  have ha' : a % 2 ^ IntKind.i64.bits = a := Nat.mod_eq_of_lt (by show a < 2 ^ 64; omega)
  have hb' : b % 2 ^ IntKind.i64.bits = b := Nat.mod_eq_of_lt (by show b < 2 ^ 64; omega)
  have hx : a &&& b < 2 ^ 62 := Nat.and_lt_two_pow a hb
  simp only [Go.bits, BitVec.ofInt_natCast, BitVec.toNat_and, BitVec.toNat_ofNat, ha', hb']
  rw [IntKind.wrap_i64]
  omega
theorem shr_nat (v i : Nat) (hi : i ≤ 60) : shr .i64 (v : Int) (i : Int) = ((v / 2 ^ i : Nat) : Int) := by
  have hb : IntKind.i64.bits = 64 := rfl
  unfold shr
  rw [Int.toNat_natCast, hb, Nat.min_eq_left (by omega)]
  have e : (2 : Int) ^ i = ((2 ^ i : Nat) : Int) := by rw [Int.natCast_pow]; rfl
  rw [e]; rfl
theorem bit_at (v i : Nat) (hv : v < 2 ^ 62) (hi : i ≤ 60) : Go.bits .and .i64 (shr .i64 (v : Int) (i : Int)) 1 = if v.testBit i = true then 1 else 0 := by
  have h1 : v / 2 ^ i < 2 ^ 62 := Nat.lt_of_le_of_lt (Nat.div_le_self _ _) hv
  have h2 := nand_nat h1 (show 1 < 2 ^ 62 by omega)
  rw [shr_nat v i hi]
  have e1 : ((1 : Nat) : Int) = 1 := rfl
  rw [e1] at h2
  rw [h2, Nat.and_one_is_mod, Nat.testBit_eq_decide_div_mod_eq]
  rcases Nat.mod_two_eq_zero_or_one (v / 2 ^ i) with h | h <;> rw [h] <;> simp
theorem shl_nat (v i : Nat) (hi : i ≤ 60) (h : v * 2 ^ i < 2 ^ 62) : shl .i64 (v : Int) (i : Int) = ((v * 2 ^ i : Nat) : Int) := by
  have hb : IntKind.i64.bits = 64 := rfl
  unfold shl
  rw [Int.toNat_natCast, hb, Nat.min_eq_left (by omega), IntKind.wrap_i64]
  have e : (v : Int) * (2 : Int) ^ i = ((v * 2 ^ i : Nat) : Int) := by rw [Int.natCast_mul, Int.natCast_pow]; rfl
  rw [e]
  generalize v * 2 ^ i = p at *
  omega
/-- The pairs of two sets whose number is less than m. -/
def prU (A B n : Nat) : Nat → Nat
  | 0 => 0
  | m + 1 => prU A B n m ||| (if (A.testBit (m / n) && B.testBit (m % n)) = true then 2 ^ m else 0)
theorem prU_bit (A B n : Nat) : ∀ m j, (prU A B n m).testBit j = (decide (j < m) && (A.testBit (j / n) && B.testBit (j % n)))
  | 0, j => by simp [prU]
  | m + 1, j => by
    rw [prU, Nat.testBit_or, prU_bit A B n m j]
    by_cases h : j = m
    · subst h
      rw [decide_eq_false (Nat.lt_irrefl j), decide_eq_true (Nat.lt_succ_self j), Bool.false_and, Bool.false_or, Bool.true_and]
      cases hx : (A.testBit (j / n) && B.testBit (j % n)) <;> simp [Nat.testBit_two_pow_self]
    · have h0 : (if (A.testBit (m / n) && B.testBit (m % n)) = true then 2 ^ m else 0 : Nat).testBit j = false := by
        split
        · rw [Nat.testBit_two_pow]; exact decide_eq_false (fun e => h e.symm)
        · simp
      rw [h0, Bool.or_false]
      have : decide (j < m) = decide (j < m + 1) := decide_eq_decide.2 (by omega)
      rw [this]
theorem prU_lt (A B n m : Nat) : prU A B n m < 2 ^ m := Nat.lt_pow_two_of_testBit _ fun j hj => by rw [prU_bit, decide_eq_false (by omega)]; rfl
theorem prU_more {A B n a m : Nat} (hn : 0 < n) (hA : A < 2 ^ a) (hm : a * n ≤ m) : prU A B n m = prU A B n (a * n) := by
  apply Nat.eq_of_testBit_eq
  intro j
  rw [prU_bit, prU_bit]
  by_cases h : j < a * n
  · rw [decide_eq_true h, decide_eq_true (by omega)]
  · have h1 : a ≤ j / n := (Nat.le_div_iff_mul_le hn).2 (by omega)
    have h2 : A < 2 ^ (j / n) := Nat.lt_of_lt_of_le hA (Nat.pow_le_pow_right (by omega) h1)
    rw [Nat.testBit_lt_two_pow h2]; simp
/-- The states met from the first i states, bit by bit. -/
theorem nxs_bit {l : List Int} {n : Nat} (hn : n ≤ 60) (h : Stt l n) (hl : l.length ≤ 60) (v : Nat) (hv : v < 2 ^ 62) : ∀ i : Nat, i ≤ l.length → ∃ w : Nat, nxs l (v : Int) i = (w : Int) ∧ w < 2 ^ n ∧ ∀ b, w.testBit b = dec (∃ j : Nat, j < i ∧ v.testBit j = true ∧ (rd l (j : Int)).toNat.testBit b = true)
  | 0, _ => ⟨0, rfl, Nat.two_pow_pos n, fun b => by rw [dec_false (fun ⟨j, h, _⟩ => by omega)]; simp⟩
  | i + 1, hi => by
    obtain ⟨w, h1, h2, h3⟩ := nxs_bit hn h hl v hv i (by omega)
    obtain ⟨u, h4, h5⟩ := h i (by omega)
    have hp : 2 ^ n ≤ 2 ^ 60 := Nat.pow_le_pow_right (by omega) hn
    rw [nxs, bit_at v i hv (by omega)]
    cases hb : v.testBit i with
    | false =>
      refine ⟨w, by rw [if_neg (by decide)]; exact h1, h2, fun b => ?_⟩
      rw [h3 b]
      refine dec_congr ⟨fun ⟨j, a, c⟩ => ⟨j, by omega, c⟩, fun ⟨j, a, c⟩ => ⟨j, ?_, c⟩⟩
      rcases Nat.lt_or_ge j i with x | x
      · exact x
      · rw [show j = i by omega, hb] at c; cases c.1
    | true =>
      refine ⟨w ||| u, by rw [if_pos rfl, if_pos rfl, h1, h4, nor_nat (by omega) (by omega)], Nat.or_lt_two_pow h2 h5, fun b => ?_⟩
      rw [Nat.testBit_or, h3 b, Bool.eq_iff_iff, Bool.or_eq_true, dec_iff, dec_iff]
      constructor
      · rintro (⟨j, a, c⟩ | c)
        · exact ⟨j, by omega, c⟩
        · exact ⟨i, Nat.lt_succ_self i, hb, by rw [h4, Int.toNat_natCast]; exact c⟩
      · rintro ⟨j, a, c, d⟩
        rcases Nat.lt_or_ge j i with x | x
        · exact .inl ⟨j, x, c, d⟩
        · rw [show j = i by omega, h4, Int.toNat_natCast] at d; exact .inr d
/-- The steps of the machine of pairs. -/
def prL (l1 l2 : List Int) (m : Nat) : List Int := (List.range m).map fun q => ((prU (rd l1 ((q / l2.length : Nat) : Int)).toNat (rd l2 ((q % l2.length : Nat) : Int)).toNat l2.length (l1.length * l2.length) : Nat) : Int)
theorem prL_length (l1 l2 : List Int) (m : Nat) : (prL l1 l2 m).length = m := by simp [prL]
theorem prL_succ (l1 l2 : List Int) (m : Nat) : prL l1 l2 (m + 1) = prL l1 l2 m ++ [((prU (rd l1 ((m / l2.length : Nat) : Int)).toNat (rd l2 ((m % l2.length : Nat) : Int)).toNat l2.length (l1.length * l2.length) : Nat) : Int)] := by simp [prL, List.range_succ]
theorem prL_rd (l1 l2 : List Int) {m q : Nat} (h : q < m) : rd (prL l1 l2 m) (q : Int) = ((prU (rd l1 ((q / l2.length : Nat) : Int)).toNat (rd l2 ((q % l2.length : Nat) : Int)).toNat l2.length (l1.length * l2.length) : Nat) : Int) := by
  simp [rd, prL, List.getD_eq_getElem?_getD, h]
theorem prL_stt (l1 l2 : List Int) : Stt (prL l1 l2 (l1.length * l2.length)) (l1.length * l2.length) := fun i hi => by
  rw [prL_length] at hi
  exact ⟨_, prL_rd l1 l2 hi, prU_lt _ _ _ _⟩
/-- The steps of pairs are the pairs of steps. -/
theorem nxt_pairs {l1 l2 : List Int} (h1 : Stt l1 l1.length) (h2 : Stt l2 l2.length) (hn : 0 < l2.length) (hm : l1.length * l2.length ≤ 60) (hl1 : l1.length ≤ 60) (hl2 : l2.length ≤ 60) (A B : Nat) (hA : A < 2 ^ l1.length) (hB : B < 2 ^ l2.length) :
    nxt (prL l1 l2 (l1.length * l2.length)) ((prU A B l2.length (l1.length * l2.length) : Nat) : Int) = ((prU (nxt l1 (A : Int)).toNat (nxt l2 (B : Int)).toNat l2.length (l1.length * l2.length) : Nat) : Int) := by
  have p1 : 2 ^ l1.length ≤ 2 ^ 60 := Nat.pow_le_pow_right (by omega) hl1
  have p2 : 2 ^ l2.length ≤ 2 ^ 60 := Nat.pow_le_pow_right (by omega) hl2
  have p3 : 2 ^ (l1.length * l2.length) ≤ 2 ^ 60 := Nat.pow_le_pow_right (by omega) hm
  have p4 := prU_lt A B l2.length (l1.length * l2.length)
  obtain ⟨w, e1, _, e2⟩ := nxs_bit hm (prL_stt l1 l2) (by rw [prL_length]; exact hm) (prU A B l2.length (l1.length * l2.length)) (by omega) _ (Nat.le_refl _)
  obtain ⟨wa, e3, _, e4⟩ := nxs_bit hl1 h1 hl1 A (by omega) _ (Nat.le_refl _)
  obtain ⟨wb, e5, _, e6⟩ := nxs_bit hl2 h2 hl2 B (by omega) _ (Nat.le_refl _)
  unfold nxt
  rw [e1, e3, e5, Int.toNat_natCast, Int.toNat_natCast]
  congr 1
  apply Nat.eq_of_testBit_eq
  intro b
  rw [e2, prU_bit, e4, e6, prL_length, Bool.eq_iff_iff, Bool.and_eq_true, Bool.and_eq_true, dec_iff, dec_iff, dec_iff, decide_eq_true_iff]
  constructor
  · rintro ⟨j, hj, a, c⟩
    rw [prU_bit, Bool.and_eq_true, Bool.and_eq_true] at a
    rw [prL_rd l1 l2 hj, Int.toNat_natCast, prU_bit, Bool.and_eq_true, Bool.and_eq_true, decide_eq_true_iff] at c
    exact ⟨c.1, ⟨j / l2.length, Nat.div_lt_of_lt_mul (by rw [Nat.mul_comm]; exact hj), a.2.1, c.2.1⟩, ⟨j % l2.length, Nat.mod_lt _ hn, a.2.2, c.2.2⟩⟩
  · rintro ⟨hb, ⟨x, hx, a1, a2⟩, ⟨y, hy, b1, b2⟩⟩
    have hq : x * l2.length + y < l1.length * l2.length := by
      have : (x + 1) * l2.length ≤ l1.length * l2.length := Nat.mul_le_mul_right _ hx
      rw [Nat.succ_mul] at this; omega
    have hd : (x * l2.length + y) / l2.length = x := by rw [Nat.mul_comm, Nat.mul_add_div hn, Nat.div_eq_of_lt hy, Nat.add_zero]
    have hr : (x * l2.length + y) % l2.length = y := by rw [Nat.mul_comm, Nat.mul_add_mod, Nat.mod_eq_of_lt hy]
    refine ⟨x * l2.length + y, hq, ?_, ?_⟩
    · rw [prU_bit, hd, hr, decide_eq_true hq, a1, b1]; rfl
    · rw [prL_rd l1 l2 hq, Int.toNat_natCast, prU_bit, hd, hr, decide_eq_true hb, a2, b2]; rfl
theorem orb_pairs {l1 l2 : List Int} (h1 : Stt l1 l1.length) (h2 : Stt l2 l2.length) (hn : 0 < l2.length) (hm : l1.length * l2.length ≤ 60) (hl1 : l1.length ≤ 60) (hl2 : l2.length ≤ 60) (A B : Nat) (hA : A < 2 ^ l1.length) (hB : B < 2 ^ l2.length) :
    ∀ t, orb (prL l1 l2 (l1.length * l2.length)) ((prU A B l2.length (l1.length * l2.length) : Nat) : Int) t = ((prU (orb l1 (A : Int) t).toNat (orb l2 (B : Int) t).toNat l2.length (l1.length * l2.length) : Nat) : Int)
  | 0 => by show _ = ((prU (A : Int).toNat (B : Int).toNat _ _ : Nat) : Int); rw [Int.toNat_natCast, Int.toNat_natCast]; rfl
  | t + 1 => by
    obtain ⟨a, ea, ha⟩ := orb_in hl1 h1 ⟨A, rfl, hA⟩ t
    obtain ⟨b, eb, hb⟩ := orb_in hl2 h2 ⟨B, rfl, hB⟩ t
    show nxt _ (orb _ _ t) = ((prU (nxt l1 (orb l1 (A : Int) t)).toNat (nxt l2 (orb l2 (B : Int) t)).toNat _ _ : Nat) : Int)
    rw [orb_pairs h1 h2 hn hm hl1 hl2 A B hA hB t, ea, eb, Int.toNat_natCast, Int.toNat_natCast]
    exact nxt_pairs h1 h2 hn hm hl1 hl2 a b ha hb
/-- Some state of a set is one of another's. -/
theorem and_ne (a b : Nat) (ha : a < 2 ^ 62) (hb : b < 2 ^ 62) : (Go.bits .and .i64 (a : Int) (b : Int) != 0) = dec (∃ j, a.testBit j = true ∧ b.testBit j = true) := by
  rw [nand_nat ha hb, Bool.eq_iff_iff, bne_iff_ne, dec_iff]
  constructor
  · intro h
    refine Classical.byContradiction fun h2 => h ?_
    have : a &&& b = 0 := Nat.eq_of_testBit_eq fun j => by
      rw [Nat.testBit_and, Nat.zero_testBit]
      cases h3 : a.testBit j <;> cases h4 : b.testBit j <;> first | rfl | exact absurd ⟨j, h3, h4⟩ h2
    rw [this]; rfl
  · rintro ⟨j, h1, h2⟩ h3
    have h4 : a &&& b = 0 := by omega
    have h5 : (a &&& b).testBit j = true := by rw [Nat.testBit_and, h1, h2]; rfl
    rw [h4, Nat.zero_testBit] at h5; cases h5
theorem mq_pairs {l1 l2 : List Int} (h1 : Stt l1 l1.length) (h2 : Stt l2 l2.length) (hn : 0 < l2.length) (hm : l1.length * l2.length ≤ 60) (hl1 : l1.length ≤ 60) (hl2 : l2.length ≤ 60) (A B E D : Nat) (hA : A < 2 ^ l1.length) (hB : B < 2 ^ l2.length) (hE : E < 2 ^ l1.length) (hD : D < 2 ^ l2.length) :
    mq (prL l1 l2 (l1.length * l2.length)) ((prU A B l2.length (l1.length * l2.length) : Nat) : Int) ((prU E D l2.length (l1.length * l2.length) : Nat) : Int) = fun t => mq l1 (A : Int) (E : Int) t && mq l2 (B : Int) (D : Int) t := by
  have p1 : 2 ^ l1.length ≤ 2 ^ 60 := Nat.pow_le_pow_right (by omega) hl1
  have p2 : 2 ^ l2.length ≤ 2 ^ 60 := Nat.pow_le_pow_right (by omega) hl2
  have p3 : 2 ^ (l1.length * l2.length) ≤ 2 ^ 60 := Nat.pow_le_pow_right (by omega) hm
  funext t
  obtain ⟨a, ea, ha⟩ := orb_in hl1 h1 ⟨A, rfl, hA⟩ t
  obtain ⟨b, eb, hb⟩ := orb_in hl2 h2 ⟨B, rfl, hB⟩ t
  have q1 := prU_lt a b l2.length (l1.length * l2.length)
  have q2 := prU_lt E D l2.length (l1.length * l2.length)
  unfold mq
  rw [orb_pairs h1 h2 hn hm hl1 hl2 A B hA hB t, ea, eb, Int.toNat_natCast, Int.toNat_natCast, and_ne _ _ (by omega) (by omega), and_ne _ _ (by omega) (by omega), and_ne _ _ (by omega) (by omega), Bool.eq_iff_iff, Bool.and_eq_true, dec_iff, dec_iff, dec_iff]
  constructor
  · rintro ⟨j, c, d⟩
    rw [prU_bit, Bool.and_eq_true, Bool.and_eq_true] at c d
    exact ⟨⟨j / l2.length, c.2.1, d.2.1⟩, ⟨j % l2.length, c.2.2, d.2.2⟩⟩
  · rintro ⟨⟨x, c1, d1⟩, ⟨y, c2, d2⟩⟩
    have hx : x < l1.length := by
      rcases Nat.lt_or_ge x l1.length with h | h
      · exact h
      · rw [Nat.testBit_lt_two_pow (Nat.lt_of_lt_of_le ha (Nat.pow_le_pow_right (by omega) h))] at c1; cases c1
    have hy : y < l2.length := by
      rcases Nat.lt_or_ge y l2.length with h | h
      · exact h
      · rw [Nat.testBit_lt_two_pow (Nat.lt_of_lt_of_le hb (Nat.pow_le_pow_right (by omega) h))] at c2; cases c2
    have hq : x * l2.length + y < l1.length * l2.length := by
      have : (x + 1) * l2.length ≤ l1.length * l2.length := Nat.mul_le_mul_right _ hx
      rw [Nat.succ_mul] at this; omega
    have hd : (x * l2.length + y) / l2.length = x := by rw [Nat.mul_comm, Nat.mul_add_div hn, Nat.div_eq_of_lt hy, Nat.add_zero]
    have hr : (x * l2.length + y) % l2.length = y := by rw [Nat.mul_comm, Nat.mul_add_mod, Nat.mod_eq_of_lt hy]
    refine ⟨x * l2.length + y, ?_, ?_⟩
    · rw [prU_bit, hd, hr, decide_eq_true hq, c1, c2]; rfl
    · rw [prU_bit, hd, hr, decide_eq_true hq, d1, d2]; rfl
end Go.Proofs.Ytneadgionjlicaa.P

-- impl.set.has asks for the place.
namespace Go.Proofs.Ytneadgionjlicaa.P
open Go.RowKit Go.Proofs.YtneadgionjlicaaW.PrintWords Go.Proofs.YtneadgionjlicaaW.PrintLast Go.Proofs.YtneadgionjlicaaW.PrintMore
set_option linter.unusedVariables false
set_option linter.unusedSimpArgs false

theorem ihas_f (t r : List Bool) (hr : r ≠ []) (hl : t.length + r.length ≤ 70368744177664) (n : Nat) (hn : n ≤ 70368744177664) : impl_set_has.f t r n = some (hasB t r n) := by
  have hpos := List.length_pos_iff.2 hr
  unfold impl_set_has.f
  rw [if_neg (by omega)]
  by_cases h : n < t.length
  · rw [if_pos (by omega), if_pos (by omega), rdOf_nat, hasB_tail h]
  · have hm := Nat.mod_lt (n - t.length) hpos
    have e : Int.tmod (wrap64 ((n : Int) - (t.length : Int))) (r.length : Int) = (((n - t.length) % r.length : Nat) : Int) := by
      rw [w64 (by omega) (by omega), show (n : Int) - (t.length : Int) = ((n - t.length : Nat) : Int) by omega, Int.tmod_eq_emod_of_nonneg (by omega)]; rfl
    rw [if_neg (by omega), if_neg (by omega), e, if_pos (by omega), if_pos (by omega), rdOf_nat, hasB_ring' (by omega)]
theorem ihas_neg (t r : List Bool) (n : Int) (hn : n < 0) : impl_set_has.f t r n = some false := by unfold impl_set_has.f; rw [if_pos hn]

end Go.Proofs.Ytneadgionjlicaa.P

-- impl.in: a number in a range.
namespace Go.Proofs.Ytneadgionjlicaa.P
open Go.RowKit Go.Proofs.YtneadgionjlicaaW.PrintWords Go.Proofs.YtneadgionjlicaaW.PrintLast Go.Proofs.YtneadgionjlicaaW.PrintMore
set_option linter.unusedVariables false
set_option linter.unusedSimpArgs false

theorem in_f (a b c : Int) : impl_in.f a b c = some (decide (b ≤ a ∧ a ≤ c)) := by
  unfold impl_in.f
  by_cases h : a ≥ b
  · rw [if_pos h]; congr 1; apply decide_eq_decide.2; omega
  · rw [if_neg h]; congr 1; symm; rw [decide_eq_false_iff_not]; omega

end Go.Proofs.Ytneadgionjlicaa.P

-- impl.MachIn: whether a machine is one.
namespace Go.Proofs.Ytneadgionjlicaa.P
open Go.RowKit Go.Proofs.YtneadgionjlicaaW.PrintWords Go.Proofs.YtneadgionjlicaaW.PrintLast Go.Proofs.YtneadgionjlicaaW.PrintMore
attribute [local go_sem] max2_int min2_int max_two min_two
set_option linter.unusedVariables false
set_option linter.unusedSimpArgs false

/-- All states of so many. -/
def mall (n : Nat) : Int := if n = 0 then 0 else if n = 1 then 1 else if n = 2 then 3 else if n = 3 then 7 else if n = 4 then 15 else 31
/-- Whether a machine is one. -/
noncomputable def mok (l : List Int) (st en : Int) : Bool := decide (1 ≤ l.length ∧ l.length ≤ 5) && (!anyI l (fun x => !decide (0 ≤ x ∧ x ≤ mall l.length)) && (decide (0 ≤ st ∧ st ≤ mall l.length) && decide (0 ≤ en ∧ en ≤ mall l.length)))
noncomputable def impl_MachIn.f (l : List Int) (st en : Int) : Option Bool := if l.length ≤ 1000000000000 then some (mok l st en) else none
theorem machIn_f {l : List Int} (h : l.length ≤ 1000000000000) (st en : Int) : impl_MachIn.f l st en = some (mok l st en) := by unfold impl_MachIn.f; rw [if_pos h]

set_option maxHeartbeats 8000000 in
theorem machIn_q_calls (x M : Int) (b : Nat) (W : World) (hb : W.cell? ⟨b, 0, none⟩ = some (.int .i64 M)) :
    Calls Try.prog 67 #[.int .i64 x, .pointer (some ⟨b, 0, none⟩)] W fun e w' => e = .returned (.bool (!decide (0 ≤ x ∧ x ≤ M))) ∧ Below W.heap.size W w' := by
  have HI := fun w => Aside0.mk (impl_in.calls x 0 M _ w (in_f x 0 M))
  generalize decide (0 ≤ x ∧ x ≤ M) = v at *
  go_enter Try.func67, Try.ntmps67
  go_wp2_with (go_at_call 68; refine (HI _).out.mono ?_; rintro e w1 ⟨rfl, hd⟩; have hb1 := drawn0_below hd)
  go_ret
  exact ⟨rfl, hb1⟩

theorem cell_three (w : World) (x y z : Value) (T : TypeId) : (w.alloc (.cells #[x, y, z] T)).cell? ⟨w.heap.size, 0, none⟩ = some x ∧ (w.alloc (.cells #[x, y, z] T)).cell? ⟨w.heap.size, 1, none⟩ = some y ∧ (w.alloc (.cells #[x, y, z] T)).cell? ⟨w.heap.size, 2, none⟩ = some z := ⟨by simp, by simp, by simp⟩
theorem two_objs (w : World) (x y z v : Value) (T T' : TypeId) {u u' : Int} (hu : u = u') (hv : v = .int .i64 u) : ((w.alloc (.cells #[x, y, z] T)).alloc (.cells #[v] T')).cell? ⟨w.heap.size, 0, none⟩ = some x ∧ ((w.alloc (.cells #[x, y, z] T)).alloc (.cells #[v] T')).cell? ⟨w.heap.size, 1, none⟩ = some y ∧ ((w.alloc (.cells #[x, y, z] T)).alloc (.cells #[v] T')).cell? ⟨w.heap.size, 2, none⟩ = some z ∧ ((w.alloc (.cells #[x, y, z] T)).alloc (.cells #[v] T')).cell? ⟨w.heap.size + 1, 0, none⟩ = some (.int .i64 u') := by
  subst hu hv
  refine ⟨Lib.cell?_alloc_some _ (by simp), Lib.cell?_alloc_some _ (by simp), Lib.cell?_alloc_some _ (by simp), by simp⟩
set_option maxHeartbeats 16000000 in
set_option maxRecDepth 100000 in
theorem impl_MachIn.calls (A : Option Addr) (c : Nat) (l : List Int) (st en : Int) (r : Bool) (w : World) (hC : Kd.C (Kd.int .i64) w A l.length l) (hc : l.length ≤ c) (h : impl_MachIn.f l st en = some r) :
    Calls Try.prog 40 #[.agg #[.slice A l.length c, .int .i64 st, .int .i64 en]] w fun e w' => e = .returned (.bool r) ∧ Below w.heap.size w w' := by
  unfold impl_MachIn.f at h
  split at h
  rotate_left
  · cases h
  rename_i hbig
  simp only [Option.some.injEq] at h
  subst h
  have hu := Try.underlying31
  by_cases hn : 1 ≤ l.length ∧ l.length ≤ 5
  · have hin : impl_in.f (l.length : Int) 1 5 = some true := by rw [in_f, decide_eq_true (by omega)]
    have HI := fun w => Aside0.mk (impl_in.calls (l.length : Int) 1 5 _ w hin)
    have eg : ∀ args w, (callFunc 67 args).run Try.prog w = .ok (.enter 67 args) w := enters_of Try.func67 (by kernel_rfl) rfl
    have e : mok l st en = (!anyI l (fun x => !decide (0 ≤ x ∧ x ≤ mall l.length)) && (decide (0 ≤ st ∧ st ≤ mall l.length) && decide (0 ≤ en ∧ en ≤ mall l.length))) := by unfold mok; rw [decide_eq_true hn, Bool.true_and]
    rw [e]
    have HCF := fun (W : World) (hW : Below w.heap.size w W) (b : Nat) (hb : W.cell? ⟨b, 0, none⟩ = some (.int .i64 (mall l.length))) => Aside0.mk (containsFunc_calls l hbig A c 67 #[.pointer (some ⟨b, 0, none⟩)] (fun x => !decide (0 ≤ x ∧ x ≤ mall l.length)) W (Kd.C_below hC hW) hc eg (fun W' i hW' hi => machIn_q_calls _ _ b W' ((hW'.cell (p := ⟨b, 0, none⟩) (World.block_lt_of_cell? W _ hb)).trans hb)))
    have hl5 : ¬ ((5 : Int) < (l.length : Int)) := by omega
    have hval : wrap64 (wrap64 (2 ^ l.length) - 1) = mall l.length := by
      rcases (show l.length = 1 ∨ l.length = 2 ∨ l.length = 3 ∨ l.length = 4 ∨ l.length = 5 by omega) with h | h | h | h | h <;> rw [h] <;> decide +kernel
    have H2 := fun (W : World) (b : Nat) (hb : W.cell? ⟨b, 0, none⟩ = some (.int .i64 (mall l.length))) => Aside0.mk (machIn_q_calls st _ b W hb)
    have H3 := fun (W : World) (b : Nat) (hb : W.cell? ⟨b, 0, none⟩ = some (.int .i64 (mall l.length))) => Aside0.mk (machIn_q_calls en _ b W hb)
    have HM3 := Aside0.mk (fun T => two_objs w (.slice A l.length c) (.int .i64 st) (.int .i64 en) (.int .i64 (wrap64 (wrap64 (2 ^ l.length) - 1))) T 3 hval rfl)
    generalize anyI l (fun x => !decide (0 ≤ x ∧ x ≤ mall l.length)) = b1 at *
    generalize decide (0 ≤ st ∧ st ≤ mall l.length) = b2 at *
    generalize decide (0 ≤ en ∧ en ≤ mall l.length) = b3 at *
    clear e hn hin hC hbig eg hval
    cases b1 with
    | true =>
      go_enter Try.func40, Try.ntmps40
      go_wp2_with (first
        | (go_at_call 68; with_reducible refine (HI _).out.mono ?_; rintro e w1 ⟨rfl, hd⟩; have hb1 := drawn0_below hd; have HB1 := Aside0.mk (below_step (below_alloc (below_alloc (Below.refl w.heap.size w) _) _) hb1); have c0 := (hb1.cell (p := ⟨w.heap.size, 0, none⟩) (by simp; omega)).trans (HM3.out _).1; have c1 := (hb1.cell (p := ⟨w.heap.size, 1, none⟩) (by simp; omega)).trans (HM3.out _).2.1; have c2 := (hb1.cell (p := ⟨w.heap.size, 2, none⟩) (by simp; omega)).trans (HM3.out _).2.2.1; have d0 := (hb1.cell (p := ⟨w.heap.size + 1, 0, none⟩) (by simp)).trans (HM3.out _).2.2.2; have l1 : w.heap.size + 1 < w1.heap.size := Nat.lt_of_lt_of_le (by simp) hb1.size; clear hd hb1)
        | (go_at_call 69; refine (HCF _ HB1.out (w.heap.size + 1) d0).out.mono ?_; rintro e w2 ⟨rfl, hb2⟩; have HB2 := Aside0.mk (below_step HB1.out hb2); have e0 := (hb2.cell (p := ⟨w.heap.size, 0, none⟩) (by show w.heap.size < w1.heap.size; omega)).trans c0; have e1 := (hb2.cell (p := ⟨w.heap.size, 1, none⟩) (by show w.heap.size < w1.heap.size; omega)).trans c1; have e2 := (hb2.cell (p := ⟨w.heap.size, 2, none⟩) (by show w.heap.size < w1.heap.size; omega)).trans c2; have f0 := (hb2.cell (p := ⟨w.heap.size + 1, 0, none⟩) l1).trans d0; have l2 : w.heap.size + 1 < w2.heap.size := Nat.lt_of_lt_of_le l1 hb2.size; clear hb2)
        | (go_at_call 67; with_reducible refine (H2 _ _ f0).out.mono ?_; rintro e w3 ⟨rfl, hb3⟩; have HB3 := Aside0.mk (below_step HB2.out hb3); have g2 := (hb3.cell (p := ⟨w.heap.size, 2, none⟩) (by show w.heap.size < w2.heap.size; omega)).trans e2; have h0 := (hb3.cell (p := ⟨w.heap.size + 1, 0, none⟩) l2).trans f0; clear hb3)
        | (go_at_call 67; with_reducible refine (H3 _ _ h0).out.mono ?_; rintro e w4 ⟨rfl, hb4⟩; have HB4 := Aside0.mk (below_step HB3.out hb4); clear hb4))
      go_ret
      exact ⟨by first | rfl | simp, by first | exact HB4.out | exact HB3.out | exact HB2.out⟩
    | false =>
      cases b2 with
      | false =>
        go_enter Try.func40, Try.ntmps40
        go_wp2_with (first
          | (go_at_call 68; with_reducible refine (HI _).out.mono ?_; rintro e w1 ⟨rfl, hd⟩; have hb1 := drawn0_below hd; have HB1 := Aside0.mk (below_step (below_alloc (below_alloc (Below.refl w.heap.size w) _) _) hb1); have c0 := (hb1.cell (p := ⟨w.heap.size, 0, none⟩) (by simp; omega)).trans (HM3.out _).1; have c1 := (hb1.cell (p := ⟨w.heap.size, 1, none⟩) (by simp; omega)).trans (HM3.out _).2.1; have c2 := (hb1.cell (p := ⟨w.heap.size, 2, none⟩) (by simp; omega)).trans (HM3.out _).2.2.1; have d0 := (hb1.cell (p := ⟨w.heap.size + 1, 0, none⟩) (by simp)).trans (HM3.out _).2.2.2; have l1 : w.heap.size + 1 < w1.heap.size := Nat.lt_of_lt_of_le (by simp) hb1.size; clear hd hb1)
          | (go_at_call 69; refine (HCF _ HB1.out (w.heap.size + 1) d0).out.mono ?_; rintro e w2 ⟨rfl, hb2⟩; have HB2 := Aside0.mk (below_step HB1.out hb2); have e0 := (hb2.cell (p := ⟨w.heap.size, 0, none⟩) (by show w.heap.size < w1.heap.size; omega)).trans c0; have e1 := (hb2.cell (p := ⟨w.heap.size, 1, none⟩) (by show w.heap.size < w1.heap.size; omega)).trans c1; have e2 := (hb2.cell (p := ⟨w.heap.size, 2, none⟩) (by show w.heap.size < w1.heap.size; omega)).trans c2; have f0 := (hb2.cell (p := ⟨w.heap.size + 1, 0, none⟩) l1).trans d0; have l2 : w.heap.size + 1 < w2.heap.size := Nat.lt_of_lt_of_le l1 hb2.size; clear hb2)
          | (go_at_call 67; with_reducible refine (H2 _ _ f0).out.mono ?_; rintro e w3 ⟨rfl, hb3⟩; have HB3 := Aside0.mk (below_step HB2.out hb3); have g2 := (hb3.cell (p := ⟨w.heap.size, 2, none⟩) (by show w.heap.size < w2.heap.size; omega)).trans e2; have h0 := (hb3.cell (p := ⟨w.heap.size + 1, 0, none⟩) l2).trans f0; clear hb3)
          | (go_at_call 67; with_reducible refine (H3 _ _ h0).out.mono ?_; rintro e w4 ⟨rfl, hb4⟩; have HB4 := Aside0.mk (below_step HB3.out hb4); clear hb4))
        go_ret
        exact ⟨by first | rfl | simp, by first | exact HB4.out | exact HB3.out | exact HB2.out⟩
      | true =>
        go_enter Try.func40, Try.ntmps40
        go_wp2_with (first
          | (go_at_call 68; with_reducible refine (HI _).out.mono ?_; rintro e w1 ⟨rfl, hd⟩; have hb1 := drawn0_below hd; have HB1 := Aside0.mk (below_step (below_alloc (below_alloc (Below.refl w.heap.size w) _) _) hb1); have c0 := (hb1.cell (p := ⟨w.heap.size, 0, none⟩) (by simp; omega)).trans (HM3.out _).1; have c1 := (hb1.cell (p := ⟨w.heap.size, 1, none⟩) (by simp; omega)).trans (HM3.out _).2.1; have c2 := (hb1.cell (p := ⟨w.heap.size, 2, none⟩) (by simp; omega)).trans (HM3.out _).2.2.1; have d0 := (hb1.cell (p := ⟨w.heap.size + 1, 0, none⟩) (by simp)).trans (HM3.out _).2.2.2; have l1 : w.heap.size + 1 < w1.heap.size := Nat.lt_of_lt_of_le (by simp) hb1.size; clear hd hb1)
          | (go_at_call 69; refine (HCF _ HB1.out (w.heap.size + 1) d0).out.mono ?_; rintro e w2 ⟨rfl, hb2⟩; have HB2 := Aside0.mk (below_step HB1.out hb2); have e0 := (hb2.cell (p := ⟨w.heap.size, 0, none⟩) (by show w.heap.size < w1.heap.size; omega)).trans c0; have e1 := (hb2.cell (p := ⟨w.heap.size, 1, none⟩) (by show w.heap.size < w1.heap.size; omega)).trans c1; have e2 := (hb2.cell (p := ⟨w.heap.size, 2, none⟩) (by show w.heap.size < w1.heap.size; omega)).trans c2; have f0 := (hb2.cell (p := ⟨w.heap.size + 1, 0, none⟩) l1).trans d0; have l2 : w.heap.size + 1 < w2.heap.size := Nat.lt_of_lt_of_le l1 hb2.size; clear hb2)
          | (go_at_call 67; with_reducible refine (H2 _ _ f0).out.mono ?_; rintro e w3 ⟨rfl, hb3⟩; have HB3 := Aside0.mk (below_step HB2.out hb3); have g2 := (hb3.cell (p := ⟨w.heap.size, 2, none⟩) (by show w.heap.size < w2.heap.size; omega)).trans e2; have h0 := (hb3.cell (p := ⟨w.heap.size + 1, 0, none⟩) l2).trans f0; clear hb3)
          | (go_at_call 67; with_reducible refine (H3 _ _ h0).out.mono ?_; rintro e w4 ⟨rfl, hb4⟩; have HB4 := Aside0.mk (below_step HB3.out hb4); clear hb4))
        go_ret
        exact ⟨by first | rfl | simp, by first | exact HB4.out | exact HB3.out | exact HB2.out⟩
  · have hin : impl_in.f (l.length : Int) 1 5 = some false := by rw [in_f, decide_eq_false (by omega)]
    have HI := fun w => Aside0.mk (impl_in.calls (l.length : Int) 1 5 _ w hin)
    have e : mok l st en = false := by unfold mok; rw [decide_eq_false hn, Bool.false_and]
    rw [e]
    clear e hn hin
    go_enter Try.func40, Try.ntmps40
    go_wp2_with (go_at_call 68; refine (HI _).out.mono ?_; rintro e w1 ⟨rfl, hd⟩; have hb1 := drawn0_below hd)
    all_goals go_ret
    all_goals exact ⟨rfl, below_step (below_alloc (below_alloc (Below.refl _ _) _) _) hb1⟩
end Go.Proofs.Ytneadgionjlicaa.P
