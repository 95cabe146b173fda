/- What these laws reach, joined by a program of this session: contracts (written by that program over the kit's print, or by hand) and plain lemmas. -/
import Derived.Test.YtneadgionjlicaaK1
import Derived.Test.YtneadgionjlicaaK2
import Derived.Test.YtneadgionjlicaaK3
import Derived.Test.YtneadgionjlicaaK4
import Derived.Test.YtneadgionjlicaaK5
import Derived.Test.YtneadgionjlicaaK6
open Go.Proofs.YtneadgionjlicaaW.PrintWords renaming below_alloc → yA, pw_below_drewN → yB, below_drew1 → yC, below_set → yD, blk_drewN → yE, blk_drew → yF, blk_alloc → yG, below_step → yP, below_size → yQ
open Go.Proofs.YtneadgionjlicaaW.PrintWords.Kd renaming R_alloc → yH, R_drewN → yI, R_drew → yJ
open List renaming setIfInBounds_toArray → yK, set_cons_zero → yL, set_cons_succ → yM
namespace Go.Proofs.Ytneadgionjlicaa.P
open Go.RowKit Go.Proofs.YtneadgionjlicaaW.PrintWords Go.Proofs.YtneadgionjlicaaW.PrintLast Go.Proofs.YtneadgionjlicaaW.PrintMore
attribute [local go_sem] max2_int min2_int max_two min_two max_three min_three max_four min_four   -- for this text's walks alone
set_option linter.unusedVariables false
set_option linter.unusedSimpArgs false

/-! ### impl_MachAt: function 52 -/
mutual
noncomputable def impl_MachAt.j0:Nat→Int→Bool→List Int→Int→Int→Option (Int × Bool)
 | 0,_,_,_,_,_=>none
 | k+1,x1,x14,x667000,x667001,x667002=>if x14=true then (some (0,false)) else (impl_MachAt.l0 k x667001 x1 0 x667000 x667001 x667002)
noncomputable def impl_MachAt.l0:Nat→Int→Int→Int→List Int→Int→Int→Option (Int × Bool)
 | 0,_,_,_,_,_,_=>none
 | k+1,x6,x17,x18,x667000,x667001,x667002=>if x18<x17 then ((impl_Machine_next.f k x667000 x667001 x667002 x6).bind fun t669=>(impl_MachAt.l0 k t669 x17 (wrap64 (x18+1)) x667000 x667001 x667002)) else (some (x6,true))
end
noncomputable def impl_MachAt.f (k:Nat) (l0_0:List Int) (a0_1:Int) (a0_2:Int) (a1:Int):Option (Int × Bool):=(impl_MachIn.f l0_0 a0_1 a0_2).bind fun t667=>(if t667=true then ((impl_in.f a1 0 1000000).bind fun t668=>(impl_MachAt.j0 k a1 (!t668) l0_0 a0_1 a0_2)) else (impl_MachAt.j0 k a1 true l0_0 a0_1 a0_2))
theorem impl_MachAt.mono_l:∀ k,(∀ y0 y1 y2 y3 y4,LeO (impl_MachAt.j0 k y0 y1 y2 y3 y4) (impl_MachAt.j0 (k+1) y0 y1 y2 y3 y4))∧(∀ y0 y1 y2 y3 y4 y5,LeO (impl_MachAt.l0 k y0 y1 y2 y3 y4 y5) (impl_MachAt.l0 (k+1) y0 y1 y2 y3 y4 y5))
 | 0=>⟨fun _ _ _ _ _ r h=>by simp [impl_MachAt.j0] at h,fun _ _ _ _ _ _ r h=>by simp [impl_MachAt.l0] at h⟩
 | k+1=>by
  obtain ⟨ih0,ih1⟩:=impl_MachAt.mono_l k
  refine ⟨?_,?_⟩
  ·intro y0 y1 y2 y3 y4
   unfold impl_MachAt.j0
   repeat' first
   | (with_reducible exact ih0 _ _ _ _ _)
   | (with_reducible exact ih1 _ _ _ _ _ _)
   | (with_reducible exact impl_Machine_next.mono _ _ _ _ _)
   | (with_reducible exact LeO.refl _)
   | (with_reducible exact LeO.none _)
   | (with_reducible refine LeO.ite ?_ ?_)
   | (with_reducible refine LeO.bind ?_ (fun _=>?_))
   | exact ih0 _ _ _ _ _
   | exact ih1 _ _ _ _ _ _
   | exact impl_Machine_next.mono _ _ _ _ _
   | exact LeO.none _
   | refine LeO.ite ?_ ?_
   | refine LeO.bind ?_ (fun _=>?_)
  ·intro y0 y1 y2 y3 y4 y5
   unfold impl_MachAt.l0
   repeat' first
   | (with_reducible exact ih0 _ _ _ _ _)
   | (with_reducible exact ih1 _ _ _ _ _ _)
   | (with_reducible exact impl_Machine_next.mono _ _ _ _ _)
   | (with_reducible exact LeO.refl _)
   | (with_reducible exact LeO.none _)
   | (with_reducible refine LeO.ite ?_ ?_)
   | (with_reducible refine LeO.bind ?_ (fun _=>?_))
   | exact ih0 _ _ _ _ _
   | exact ih1 _ _ _ _ _ _
   | exact impl_Machine_next.mono _ _ _ _ _
   | exact LeO.none _
   | refine LeO.ite ?_ ?_
   | refine LeO.bind ?_ (fun _=>?_)
theorem impl_MachAt.mono:∀ a0 a1 a2 a3 k,LeO (impl_MachAt.f k a0 a1 a2 a3) (impl_MachAt.f (k+1) a0 a1 a2 a3):=by
 intro a0 a1 a2 a3 k
 obtain ⟨ih0,ih1⟩:=impl_MachAt.mono_l k
 unfold impl_MachAt.f
 repeat' first
   | (with_reducible exact ih0 _ _ _ _ _)
   | (with_reducible exact ih1 _ _ _ _ _ _)
   | (with_reducible exact impl_Machine_next.mono _ _ _ _ _)
   | (with_reducible exact LeO.refl _)
   | (with_reducible exact LeO.none _)
   | (with_reducible refine LeO.ite ?_ ?_)
   | (with_reducible refine LeO.bind ?_ (fun _=>?_))
   | exact ih0 _ _ _ _ _
   | exact ih1 _ _ _ _ _ _
   | exact impl_Machine_next.mono _ _ _ _ _
   | exact LeO.none _
   | refine LeO.ite ?_ ?_
   | refine LeO.bind ?_ (fun _=>?_)
set_option maxHeartbeats 8000000 in
set_option maxRecDepth 100000 in
theorem impl_MachAt.calls (k:Nat) (A0_0:Option Addr) (c0_0:Nat) (l0_0:List Int) (a0_1:Int) (a0_2:Int) (a1:Int) (r1:Int) (r2:Bool) (w:World) (hr0_0:Kd.C (Kd.int .i64) w A0_0 l0_0.length l0_0) (hc0_0:l0_0.length≤c0_0) (h:impl_MachAt.f k l0_0 a0_1 a0_2 a1=some (r1,r2)) :
  Calls Try.prog 52 #[.agg #[.slice A0_0 l0_0.length c0_0,.int .i64 a0_1,.int .i64 a0_2],.int .i64 a1] w fun e w'=>e=.returned (.tuple #[.int .i64 r1,.bool r2])∧Below w.heap.size w w':=by
 have hu31:=Try.underlying31
 have HR0_0:=Aside0.mk hr0_0
 have HC0_0:=Aside0.mk hc0_0
 clear hr0_0 hc0_0
 have HB:=Aside0.mk (Below.refl w.heap.size w)
 have H:((impl_MachIn.f l0_0 a0_1 a0_2).bind fun t667=>(if t667=true then ((impl_in.f a1 0 1000000).bind fun t668=>(impl_MachAt.j0 k a1 (!t668) l0_0 a0_1 a0_2)) else (impl_MachAt.j0 k a1 true l0_0 a0_1 a0_2)))=some (r1,r2):=h
 clear h
 have HC3:=Aside0.mk H
 clear H
 go_enter Try.func52,Try.ntmps52
 go_upto_region 1 with (first|((with_reducible refine gate_dst (N:=2) rfl ?_);refine box_event ?hg (N:=2) ?hd (cs:=#[.slice A0_0 l0_0.length c0_0,.int .i64 a0_1,.int .i64 a0_2]) (t:=31) ?hr ?_;(case hd=>rfl);(case hg=>rfl);(case hr=>first|(go_simp;done)|(go_simp;rfl));intro gb666 hg w4 hbox hb;have n0_:=Aside0.mk (yP (by repeat (first|(with_reducible first|exact HB.out|apply yA|apply yB|apply yC)|exact HB.out)) hb);have n1_:=Aside0.mk (hbox);have n2_:=Aside0.mk ((by rw [hg];exact (yQ (by repeat (first|(with_reducible first|exact HB.out|apply yA|apply yB|apply yC)|exact HB.out))):w.heap.size≤gb666));have n3_:=Aside0.mk ((by rw [hg];exact (yQ (by repeat (first|(with_reducible first|exact HB.out|apply yA|apply yB|apply yC)|exact HB.out))):w.heap.size≤gb666));clear HB;have HB:=n0_;have BK666:=n1_;have GW666:=n2_;have GE666:=n3_;clear n0_ n1_ n2_ n3_;clear hb hbox hg))
 (try simp only [Act.put,yK,yL,yM])
 go_cut [14] (fun v14 wc=>∃ (kq:Nat) (x14_2:Bool),v14=.bool x14_2∧Aside0 (impl_MachAt.j0 kq a1 x14_2 l0_0 a0_1 a0_2=some (r1,r2))∧Aside0 (kq≤k)∧Aside0 (wc.heap[gb666]?=some (.cells #[(.slice A0_0 l0_0.length c0_0),.int .i64 a0_1,.int .i64 a0_2] 31 (0,0)))∧Aside0 (Below w.heap.size w wc))
 case first =>
  have H:=HC3.out
  clear HC3
  replace H:=Option.bind_eq_some_iff.mp H
  obtain ⟨t667,A50,H⟩:=H
  replace H:(if t667=true then ((impl_in.f a1 0 1000000).bind fun t668=>(impl_MachAt.j0 k a1 (!t668) l0_0 a0_1 a0_2)) else (impl_MachAt.j0 k a1 true l0_0 a0_1 a0_2))=some (r1,r2):=H
  have A5:=Aside0.mk A50
  clear A50
  by_cases c6:t667=true
  ·subst c6
   have H1:((impl_in.f a1 0 1000000).bind fun t668=>(impl_MachAt.j0 k a1 (!t668) l0_0 a0_1 a0_2))=some (r1,r2):=by rw [if_pos rfl] at H;exact H
   clear H
   have H:=H1
   clear H1
   replace H:=Option.bind_eq_some_iff.mp H
   obtain ⟨t668,A70,H⟩:=H
   replace H:(impl_MachAt.j0 k a1 (!t668) l0_0 a0_1 a0_2)=some (r1,r2):=H
   have A7:=Aside0.mk A70
   clear A70
   have H':=Aside0.mk H
   clear H
   have hcz8_0:w4.cell? ⟨gb666,0,none⟩=some (.slice A0_0 l0_0.length c0_0):=(blk_cell BK666.out 0).trans rfl
   have hcz8_1:w4.cell? ⟨gb666,1,none⟩=some (.int .i64 a0_1):=(blk_cell BK666.out 1).trans rfl
   have hcz8_2:w4.cell? ⟨gb666,2,none⟩=some (.int .i64 a0_2):=(blk_cell BK666.out 2).trans rfl
   have hfz8_0:=blk_frozen BK666.out 0
   have hfz8_1:=blk_frozen BK666.out 1
   have hfz8_2:=blk_frozen BK666.out 2
   go_wp2_with (first|((with_reducible refine gate_callee (f:=40) rfl ?_);refine goesL_ (some 8) rfl rfl Try.func40 (by kernel_rfl) rfl #[.agg #[.slice A0_0 l0_0.length c0_0,.int .i64 a0_1,.int .i64 a0_2]] rfl (by (try simp only [List.map_toArray,List.map_cons,List.map_nil]);first|done|rfl|(simp only [List.length_drop,List.length_take];rfl)) ?_;(with_reducible refine (impl_MachIn.calls _ _ l0_0 a0_1 a0_2 true _ ?side1 ?side2 A5.out).mono ?_);(case side1=>repeat (first|exact (Kd.C_below HR0_0.out HB.out)|(with_reducible refine Kd.C_alloc ?_ _)|(with_reducible refine Kd.C_drewN ?_ _)|(with_reducible refine Kd.C_drew ?_)));(case side2=>exact HC0_0.out);rintro e w9 ⟨rfl,hb⟩;refine ⟨_,rfl,?_⟩;have n0_:=Aside0.mk (blk_below (g:=gb666) (o:=.cells #[.slice A0_0 l0_0.length c0_0,.int .i64 a0_1,.int .i64 a0_2] 31 (0,0)) (by (with_reducible repeat (first|refine yE ?_ _|refine yF ?_|refine yG ?_ _));exact BK666.out) hb);have n1_:=Aside0.mk (yP (by repeat (first|(with_reducible first|exact HB.out|apply yA|apply yB|apply yC|refine yD ?_ GE666.out)|exact HB.out)) hb);clear BK666;clear HB;have BK666:=n0_;have HB:=n1_;clear n0_ n1_;(try clear hb);(try clear hb2);(try clear hk);(try clear hi))|(go_at_call 68;(with_reducible refine (impl_in.calls a1 0 1000000 t668 _ A7.out).mono ?_);rintro e w' ⟨rfl,⟨nd,rfl⟩⟩))
   go_meet
   case rel=>exact ⟨_,(!t668),(by first|rfl|(simp;done)|(simp [*];done)|(simp [Int.tmod_eq_emod_of_nonneg];done)),H',⟨by first|omega|exact Nat.le_refl _⟩,⟨by (with_reducible repeat (first|refine yE ?_ _|refine yF ?_|refine yG ?_ _));exact BK666.out⟩,⟨by repeat (first|(with_reducible first|exact HB.out|apply yA|apply yB|apply yC|refine yD ?_ GE666.out)|exact HB.out)⟩⟩
  ·replace c6:=Bool.eq_false_iff.mpr c6
   subst c6
   have H1:(impl_MachAt.j0 k a1 true l0_0 a0_1 a0_2)=some (r1,r2):=by rw [if_neg (show ¬ (false=true) by decide)] at H;exact H
   clear H
   have H:=H1
   clear H1
   have H':=Aside0.mk H
   clear H
   have hcz10_0:w4.cell? ⟨gb666,0,none⟩=some (.slice A0_0 l0_0.length c0_0):=(blk_cell BK666.out 0).trans rfl
   have hcz10_1:w4.cell? ⟨gb666,1,none⟩=some (.int .i64 a0_1):=(blk_cell BK666.out 1).trans rfl
   have hcz10_2:w4.cell? ⟨gb666,2,none⟩=some (.int .i64 a0_2):=(blk_cell BK666.out 2).trans rfl
   have hfz10_0:=blk_frozen BK666.out 0
   have hfz10_1:=blk_frozen BK666.out 1
   have hfz10_2:=blk_frozen BK666.out 2
   go_wp2_with (first|((with_reducible refine gate_callee (f:=40) rfl ?_);refine goesL_ (some 8) rfl rfl Try.func40 (by kernel_rfl) rfl #[.agg #[.slice A0_0 l0_0.length c0_0,.int .i64 a0_1,.int .i64 a0_2]] rfl (by (try simp only [List.map_toArray,List.map_cons,List.map_nil]);first|done|rfl|(simp only [List.length_drop,List.length_take];rfl)) ?_;(with_reducible refine (impl_MachIn.calls _ _ l0_0 a0_1 a0_2 false _ ?side1 ?side2 A5.out).mono ?_);(case side1=>repeat (first|exact (Kd.C_below HR0_0.out HB.out)|(with_reducible refine Kd.C_alloc ?_ _)|(with_reducible refine Kd.C_drewN ?_ _)|(with_reducible refine Kd.C_drew ?_)));(case side2=>exact HC0_0.out);rintro e w11 ⟨rfl,hb⟩;refine ⟨_,rfl,?_⟩;have n0_:=Aside0.mk (blk_below (g:=gb666) (o:=.cells #[.slice A0_0 l0_0.length c0_0,.int .i64 a0_1,.int .i64 a0_2] 31 (0,0)) (by (with_reducible repeat (first|refine yE ?_ _|refine yF ?_|refine yG ?_ _));exact BK666.out) hb);have n1_:=Aside0.mk (yP (by repeat (first|(with_reducible first|exact HB.out|apply yA|apply yB|apply yC|refine yD ?_ GE666.out)|exact HB.out)) hb);clear BK666;clear HB;have BK666:=n0_;have HB:=n1_;clear n0_ n1_;(try clear hb);(try clear hb2);(try clear hk);(try clear hi)))
   go_meet
   case rel=>exact ⟨_,(true),(by first|rfl|(simp;done)|(simp [*];done)|(simp [Int.tmod_eq_emod_of_nonneg];done)),H',⟨by first|omega|exact Nat.le_refl _⟩,⟨by (with_reducible repeat (first|refine yE ?_ _|refine yF ?_|refine yG ?_ _));exact BK666.out⟩,⟨by repeat (first|(with_reducible first|exact HB.out|apply yA|apply yB|apply yC|refine yD ?_ GE666.out)|exact HB.out)⟩⟩
 case rest =>
  clear HC3
  try clear p2
  try clear c4
  try clear c5
  try clear c6
  try clear hcz10_0
  try clear hcz10_1
  try clear hcz10_2
  try clear hcz8_0
  try clear hcz8_1
  try clear hcz8_2
  try clear hfz10_0
  try clear hfz10_1
  try clear hfz10_2
  try clear hfz8_0
  try clear hfz8_1
  try clear hfz8_2
  obtain ⟨kq,x14_2,rfl,HA,HJ2,BK666,HB⟩:=hcut
  cases kq with
  | zero=>exact absurd HA.out (by simp [impl_MachAt.j0])
  | succ kj2 =>
   have H:=HA.out
   clear HA
   simp only [impl_MachAt.j0] at H
   by_cases c12:x14_2=true
   ·subst c12
    have H1:(some (0,false))=some (r1,r2):=by rw [if_pos rfl] at H;exact H
    clear H
    have H:=H1
    clear H1
    simp only [Option.some.injEq,Prod.mk.injEq] at H
    obtain ⟨rfl,rfl⟩:=H
    go_wp2
    go_ret2
    exact ⟨by first|rfl|(simp [errW_none,errW_some]<;>rfl)|(simp [*,errW_none,errW_some]<;>rfl)|(simp [errW_none,errW_some];exact ⟨rfl,rfl⟩),by repeat (first|(with_reducible first|exact HB.out|apply yA|apply yB|apply yC|refine yD ?_ GE666.out)|exact HB.out)⟩
   ·replace c12:=Bool.eq_false_iff.mpr c12
    subst c12
    have H1:(impl_MachAt.l0 kj2 a0_1 a1 0 l0_0 a0_1 a0_2)=some (r1,r2):=by rw [if_neg (show ¬ (false=true) by decide)] at H;exact H
    clear H
    have H:=H1
    clear H1
    have H':=Aside0.mk H
    clear H
    have hcz13_0:wc.cell? ⟨gb666,0,none⟩=some (.slice A0_0 l0_0.length c0_0):=(blk_cell BK666.out 0).trans rfl
    have hcz13_1:wc.cell? ⟨gb666,1,none⟩=some (.int .i64 a0_1):=(blk_cell BK666.out 1).trans rfl
    have hcz13_2:wc.cell? ⟨gb666,2,none⟩=some (.int .i64 a0_2):=(blk_cell BK666.out 2).trans rfl
    have hfz13_0:=blk_frozen BK666.out 0
    have hfz13_1:=blk_frozen BK666.out 1
    have hfz13_2:=blk_frozen BK666.out 2
    go_wp2
    go_loopg [6,18] kj2 (fun kq v6 v18 w'=>∃ (x6_2:Int) (x18_2:Int),v6=.int .i64 x6_2∧v18=.int .i64 x18_2∧Aside0 (impl_MachAt.l0 kq x6_2 a1 x18_2 l0_0 a0_1 a0_2=some (r1,r2))∧Aside0 (kq≤kj2)∧Aside0 (w'.heap[gb666]?=some (.cells #[(.slice A0_0 l0_0.length c0_0),.int .i64 a0_1,.int .i64 a0_2] 31 (0,0)))∧Aside0 (Below w.heap.size w w'))
    case atStart=>exact ⟨(a0_1),(0),(by first|rfl|(simp;done)|(simp [*];done)|(simp [Int.tmod_eq_emod_of_nonneg];done)),(by first|rfl|(simp;done)|(simp [*];done)|(simp [Int.tmod_eq_emod_of_nonneg];done)),H',⟨Nat.le_refl _⟩,⟨by (with_reducible repeat (first|refine yE ?_ _|refine yF ?_|refine yG ?_ _));exact BK666.out⟩,⟨by repeat (first|(with_reducible first|exact HB.out|apply yA|apply yB|apply yC|refine yD ?_ GE666.out)|exact HB.out)⟩⟩
    case round =>
     clear H'
     try clear c1
     try clear p2
     try clear c4
     try clear c5
     try clear c6
     try clear c12
     try clear hcz10_0
     try clear hcz10_1
     try clear hcz10_2
     try clear hcz13_0
     try clear hcz13_1
     try clear hcz13_2
     try clear hcz8_0
     try clear hcz8_1
     try clear hcz8_2
     try clear hfz10_0
     try clear hfz10_1
     try clear hfz10_2
     try clear hfz13_0
     try clear hfz13_1
     try clear hfz13_2
     try clear hfz8_0
     try clear hfz8_1
     try clear hfz8_2
     try clear p2
     obtain ⟨x6_2,x18_2,rfl,rfl,HA,HK2,BK666,HB⟩:=hrel
     cases gk with
     | zero=>exact absurd HA.out (by simp [impl_MachAt.l0])
     | succ k2 =>
      have H:=HA.out
      clear HA
      simp only [impl_MachAt.l0] at H
      by_cases c14:x18_2<a1
      ·rw [if_pos c14] at H
       have c14b0:decide (x18_2<a1)=true:=decide_eq_true c14
       clear c14
       replace H:=Option.bind_eq_some_iff.mp H
       obtain ⟨t669,A150,H⟩:=H
       replace H:(impl_MachAt.l0 k2 t669 a1 (wrap64 (x18_2+1)) l0_0 a0_1 a0_2)=some (r1,r2):=H
       have A15:=Aside0.mk A150
       clear A150
       have H':=Aside0.mk H
       clear H
       have hcz16_0:wr.cell? ⟨gb666,0,none⟩=some (.slice A0_0 l0_0.length c0_0):=(blk_cell BK666.out 0).trans rfl
       have hcz16_1:wr.cell? ⟨gb666,1,none⟩=some (.int .i64 a0_1):=(blk_cell BK666.out 1).trans rfl
       have hcz16_2:wr.cell? ⟨gb666,2,none⟩=some (.int .i64 a0_2):=(blk_cell BK666.out 2).trans rfl
       have hfz16_0:=blk_frozen BK666.out 0
       have hfz16_1:=blk_frozen BK666.out 1
       have hfz16_2:=blk_frozen BK666.out 2
       go_wp2_with (first|((with_reducible refine gate_callee (f:=42) rfl ?_);refine goesL_ (some 22) rfl rfl Try.func42 (by kernel_rfl) rfl #[.agg #[.slice A0_0 l0_0.length c0_0,.int .i64 a0_1,.int .i64 a0_2],.int .i64 x6_2] rfl (by (try simp only [List.map_toArray,List.map_cons,List.map_nil]);first|done|rfl|(simp only [List.length_drop,List.length_take];rfl)) ?_;(with_reducible refine (impl_Machine_next.calls k2 _ _ l0_0 a0_1 a0_2 x6_2 t669 _ ?side1 ?side2 A15.out).mono ?_);(case side1=>repeat (first|exact (Kd.C_below HR0_0.out HB.out)|(with_reducible refine Kd.C_alloc ?_ _)|(with_reducible refine Kd.C_drewN ?_ _)|(with_reducible refine Kd.C_drew ?_)));(case side2=>exact HC0_0.out);rintro e w17 ⟨rfl,hb⟩;refine ⟨_,rfl,?_⟩;have n0_:=Aside0.mk (blk_below (g:=gb666) (o:=.cells #[.slice A0_0 l0_0.length c0_0,.int .i64 a0_1,.int .i64 a0_2] 31 (0,0)) (by (with_reducible repeat (first|refine yE ?_ _|refine yF ?_|refine yG ?_ _));exact BK666.out) hb);have n1_:=Aside0.mk (yP (by repeat (first|(with_reducible first|exact HB.out|apply yA|apply yB|apply yC|refine yD ?_ GE666.out)|exact HB.out)) hb);clear BK666;clear HB;have BK666:=n0_;have HB:=n1_;clear n0_ n1_;(try clear hb);(try clear hb2);(try clear hk);(try clear hi)))
       go_roundg k2
       case measure=>have:=HJ2.out;have:=HK2.out;omega
       case rel=>exact ⟨(t669),(wrap64 (x18_2+1)),(by first|rfl|(simp;done)|(simp [*];done)|(simp [Int.tmod_eq_emod_of_nonneg];done)),(by first|rfl|(simp;done)|(simp [*];done)|(simp [Int.tmod_eq_emod_of_nonneg];done)),H',⟨by have:=HJ2.out;have:=HK2.out;omega⟩,⟨by (with_reducible repeat (first|refine yE ?_ _|refine yF ?_|refine yG ?_ _));exact BK666.out⟩,⟨by repeat (first|(with_reducible first|exact HB.out|apply yA|apply yB|apply yC|refine yD ?_ GE666.out)|exact HB.out)⟩⟩
      ·rw [if_neg c14] at H
       have c14b0:decide (x18_2<a1)=false:=decide_eq_false c14
       clear c14
       simp only [Option.some.injEq,Prod.mk.injEq] at H
       obtain ⟨rfl,rfl⟩:=H
       go_wp2
       go_ret2
       exact ⟨by first|rfl|(simp [errW_none,errW_some]<;>rfl)|(simp [*,errW_none,errW_some]<;>rfl)|(simp [errW_none,errW_some];exact ⟨rfl,rfl⟩),by repeat (first|(with_reducible first|exact HB.out|apply yA|apply yB|apply yC|refine yD ?_ GE666.out)|exact HB.out)⟩

end Go.Proofs.Ytneadgionjlicaa.P

namespace Go.Proofs.Ytneadgionjlicaa.P
open Go.RowKit Go.Proofs.YtneadgionjlicaaW.PrintWords Go.Proofs.YtneadgionjlicaaW.PrintLast Go.Proofs.YtneadgionjlicaaW.PrintMore
attribute [local go_sem] max2_int min2_int max_two min_two max_three min_three max_four min_four   -- for this text's walks alone
set_option linter.unusedVariables false
set_option linter.unusedSimpArgs false

/-! ### impl_MachTakes: function 27 -/
noncomputable def impl_MachTakes.f (k:Nat) (l0_0:List Int) (a0_1:Int) (a0_2:Int) (a1:Int):Option (Bool):=(impl_MachAt.f k l0_0 a0_1 a0_2 a1).bind fun bt671=>(if bt671.2=true then (some ((Go.bits .and .i64 bt671.1 a0_2) != 0)) else (some false))
theorem impl_MachTakes.mono:∀ a0 a1 a2 a3 k,LeO (impl_MachTakes.f k a0 a1 a2 a3) (impl_MachTakes.f (k+1) a0 a1 a2 a3):=by
 intro a0 a1 a2 a3 k
 unfold impl_MachTakes.f
 repeat' first
   | (with_reducible exact impl_MachAt.mono _ _ _ _ _)
   | (with_reducible exact LeO.refl _)
   | (with_reducible exact LeO.none _)
   | (with_reducible refine LeO.ite ?_ ?_)
   | (with_reducible refine LeO.bind ?_ (fun _=>?_))
   | exact impl_MachAt.mono _ _ _ _ _
   | exact LeO.none _
   | refine LeO.ite ?_ ?_
   | refine LeO.bind ?_ (fun _=>?_)
set_option maxHeartbeats 8000000 in
set_option maxRecDepth 100000 in
theorem impl_MachTakes.calls (k:Nat) (A0_0:Option Addr) (c0_0:Nat) (l0_0:List Int) (a0_1:Int) (a0_2:Int) (a1:Int) (r:Bool) (w:World) (hr0_0:Kd.C (Kd.int .i64) w A0_0 l0_0.length l0_0) (hc0_0:l0_0.length≤c0_0) (h:impl_MachTakes.f k l0_0 a0_1 a0_2 a1=some r) :
  Calls Try.prog 27 #[.agg #[.slice A0_0 l0_0.length c0_0,.int .i64 a0_1,.int .i64 a0_2],.int .i64 a1] w fun e w'=>e=.returned (.bool r)∧Below w.heap.size w w':=by
 have hu31:=Try.underlying31
 have HR0_0:=Aside0.mk hr0_0
 have HC0_0:=Aside0.mk hc0_0
 clear hr0_0 hc0_0
 have HB:=Aside0.mk (Below.refl w.heap.size w)
 have H:((impl_MachAt.f k l0_0 a0_1 a0_2 a1).bind fun bt671=>(if bt671.2=true then (some ((Go.bits .and .i64 bt671.1 a0_2) != 0)) else (some false)))=some r:=h
 clear h
 replace H:=Option.bind_eq_some_iff.mp H
 obtain ⟨⟨t671,t672⟩,A30,H⟩:=H
 replace H:(if t672=true then (some ((Go.bits .and .i64 t671 a0_2) != 0)) else (some false))=some r:=H
 have A3:=Aside0.mk A30
 clear A30
 by_cases c4:t672=true
 ·subst c4
  have H1:(some ((Go.bits .and .i64 t671 a0_2) != 0))=some r:=by rw [if_pos rfl] at H;exact H
  clear H
  have H:=H1
  clear H1
  obtain rfl:=Option.some.inj H
  go_enter Try.func27,Try.ntmps27
  go_wp2_with (first|((with_reducible refine gate_dst (N:=2) rfl ?_);refine box_event ?hg (N:=2) ?hd (cs:=#[.slice A0_0 l0_0.length c0_0,.int .i64 a0_1,.int .i64 a0_2]) (t:=31) ?hr ?_;(case hd=>rfl);(case hg=>rfl);(case hr=>first|(go_simp;done)|(go_simp;rfl));intro gb670 hg w5 hbox hb;have n0_:=Aside0.mk (yP (by repeat (first|(with_reducible first|exact HB.out|apply yA|apply yB|apply yC)|exact HB.out)) hb);have n1_:=Aside0.mk (hbox);have n2_:=Aside0.mk ((by rw [hg];exact (yQ (by repeat (first|(with_reducible first|exact HB.out|apply yA|apply yB|apply yC)|exact HB.out))):w.heap.size≤gb670));have n3_:=Aside0.mk ((by rw [hg];exact (yQ (by repeat (first|(with_reducible first|exact HB.out|apply yA|apply yB|apply yC)|exact HB.out))):w.heap.size≤gb670));clear HB;have HB:=n0_;have BK670:=n1_;have GW670:=n2_;have GE670:=n3_;clear n0_ n1_ n2_ n3_;clear hb hbox hg;have hcz6_0:w5.cell? ⟨gb670,0,none⟩=some (.slice A0_0 l0_0.length c0_0):=(blk_cell BK670.out 0).trans rfl;have hcz6_1:w5.cell? ⟨gb670,1,none⟩=some (.int .i64 a0_1):=(blk_cell BK670.out 1).trans rfl;have hcz6_2:w5.cell? ⟨gb670,2,none⟩=some (.int .i64 a0_2):=(blk_cell BK670.out 2).trans rfl;have hfz6_0:=blk_frozen BK670.out 0;have hfz6_1:=blk_frozen BK670.out 1;have hfz6_2:=blk_frozen BK670.out 2)|((with_reducible refine gate_callee (f:=52) rfl ?_);refine goesL_ (some 10) rfl rfl Try.func52 (by kernel_rfl) rfl #[.agg #[.slice A0_0 l0_0.length c0_0,.int .i64 a0_1,.int .i64 a0_2],.int .i64 a1] rfl (by (try simp only [List.map_toArray,List.map_cons,List.map_nil]);first|done|rfl|(simp only [List.length_drop,List.length_take];rfl)) ?_;(with_reducible refine (impl_MachAt.calls k _ _ l0_0 a0_1 a0_2 a1 t671 true _ ?side1 ?side2 A3.out).mono ?_);(case side1=>repeat (first|exact (Kd.C_below HR0_0.out HB.out)|(with_reducible refine Kd.C_alloc ?_ _)|(with_reducible refine Kd.C_drewN ?_ _)|(with_reducible refine Kd.C_drew ?_)));(case side2=>exact HC0_0.out);rintro e w7 ⟨rfl,hb⟩;refine ⟨_,rfl,?_⟩;have n0_:=Aside0.mk (blk_below (g:=gb670) (o:=.cells #[.slice A0_0 l0_0.length c0_0,.int .i64 a0_1,.int .i64 a0_2] 31 (0,0)) (by (with_reducible repeat (first|refine yE ?_ _|refine yF ?_|refine yG ?_ _));exact BK670.out) hb);have n1_:=Aside0.mk (yP (by repeat (first|(with_reducible first|exact HB.out|apply yA|apply yB|apply yC|refine yD ?_ GE670.out)|exact HB.out)) hb);clear BK670;clear HB;have BK670:=n0_;have HB:=n1_;clear n0_ n1_;(try clear hb);(try clear hb2);(try clear hk);(try clear hi);have hcz8_0:w7.cell? ⟨gb670,0,none⟩=some (.slice A0_0 l0_0.length c0_0):=(blk_cell BK670.out 0).trans rfl;have hcz8_1:w7.cell? ⟨gb670,1,none⟩=some (.int .i64 a0_1):=(blk_cell BK670.out 1).trans rfl;have hcz8_2:w7.cell? ⟨gb670,2,none⟩=some (.int .i64 a0_2):=(blk_cell BK670.out 2).trans rfl;have hfz8_0:=blk_frozen BK670.out 0;have hfz8_1:=blk_frozen BK670.out 1;have hfz8_2:=blk_frozen BK670.out 2))
  go_ret
  exact ⟨by first|rfl|(simp [errW_none,errW_some]<;>rfl)|(simp [*,errW_none,errW_some]<;>rfl)|(simp [errW_none,errW_some];exact ⟨rfl,rfl⟩),by repeat (first|(with_reducible first|exact HB.out|apply yA|apply yB|apply yC|refine yD ?_ GE670.out)|exact HB.out)⟩
 ·replace c4:=Bool.eq_false_iff.mpr c4
  subst c4
  have H1:(some false)=some r:=by rw [if_neg (show ¬ (false=true) by decide)] at H;exact H
  clear H
  have H:=H1
  clear H1
  obtain rfl:=Option.some.inj H
  go_enter Try.func27,Try.ntmps27
  go_wp2_with (first|((with_reducible refine gate_dst (N:=2) rfl ?_);refine box_event ?hg (N:=2) ?hd (cs:=#[.slice A0_0 l0_0.length c0_0,.int .i64 a0_1,.int .i64 a0_2]) (t:=31) ?hr ?_;(case hd=>rfl);(case hg=>rfl);(case hr=>first|(go_simp;done)|(go_simp;rfl));intro gb670 hg w9 hbox hb;have n0_:=Aside0.mk (yP (by repeat (first|(with_reducible first|exact HB.out|apply yA|apply yB|apply yC)|exact HB.out)) hb);have n1_:=Aside0.mk (hbox);have n2_:=Aside0.mk ((by rw [hg];exact (yQ (by repeat (first|(with_reducible first|exact HB.out|apply yA|apply yB|apply yC)|exact HB.out))):w.heap.size≤gb670));have n3_:=Aside0.mk ((by rw [hg];exact (yQ (by repeat (first|(with_reducible first|exact HB.out|apply yA|apply yB|apply yC)|exact HB.out))):w.heap.size≤gb670));clear HB;have HB:=n0_;have BK670:=n1_;have GW670:=n2_;have GE670:=n3_;clear n0_ n1_ n2_ n3_;clear hb hbox hg;have hcz10_0:w9.cell? ⟨gb670,0,none⟩=some (.slice A0_0 l0_0.length c0_0):=(blk_cell BK670.out 0).trans rfl;have hcz10_1:w9.cell? ⟨gb670,1,none⟩=some (.int .i64 a0_1):=(blk_cell BK670.out 1).trans rfl;have hcz10_2:w9.cell? ⟨gb670,2,none⟩=some (.int .i64 a0_2):=(blk_cell BK670.out 2).trans rfl;have hfz10_0:=blk_frozen BK670.out 0;have hfz10_1:=blk_frozen BK670.out 1;have hfz10_2:=blk_frozen BK670.out 2)|((with_reducible refine gate_callee (f:=52) rfl ?_);refine goesL_ (some 10) rfl rfl Try.func52 (by kernel_rfl) rfl #[.agg #[.slice A0_0 l0_0.length c0_0,.int .i64 a0_1,.int .i64 a0_2],.int .i64 a1] rfl (by (try simp only [List.map_toArray,List.map_cons,List.map_nil]);first|done|rfl|(simp only [List.length_drop,List.length_take];rfl)) ?_;(with_reducible refine (impl_MachAt.calls k _ _ l0_0 a0_1 a0_2 a1 t671 false _ ?side1 ?side2 A3.out).mono ?_);(case side1=>repeat (first|exact (Kd.C_below HR0_0.out HB.out)|(with_reducible refine Kd.C_alloc ?_ _)|(with_reducible refine Kd.C_drewN ?_ _)|(with_reducible refine Kd.C_drew ?_)));(case side2=>exact HC0_0.out);rintro e w11 ⟨rfl,hb⟩;refine ⟨_,rfl,?_⟩;have n0_:=Aside0.mk (blk_below (g:=gb670) (o:=.cells #[.slice A0_0 l0_0.length c0_0,.int .i64 a0_1,.int .i64 a0_2] 31 (0,0)) (by (with_reducible repeat (first|refine yE ?_ _|refine yF ?_|refine yG ?_ _));exact BK670.out) hb);have n1_:=Aside0.mk (yP (by repeat (first|(with_reducible first|exact HB.out|apply yA|apply yB|apply yC|refine yD ?_ GE670.out)|exact HB.out)) hb);clear BK670;clear HB;have BK670:=n0_;have HB:=n1_;clear n0_ n1_;(try clear hb);(try clear hb2);(try clear hk);(try clear hi)))
  go_ret
  exact ⟨by first|rfl|(simp [errW_none,errW_some]<;>rfl)|(simp [*,errW_none,errW_some]<;>rfl)|(simp [errW_none,errW_some];exact ⟨rfl,rfl⟩),by repeat (first|(with_reducible first|exact HB.out|apply yA|apply yB|apply yC|refine yD ?_ GE670.out)|exact HB.out)⟩

end Go.Proofs.Ytneadgionjlicaa.P

namespace Go.Proofs.Ytneadgionjlicaa.P
open Go.RowKit Go.Proofs.YtneadgionjlicaaW.PrintWords Go.Proofs.YtneadgionjlicaaW.PrintLast Go.Proofs.YtneadgionjlicaaW.PrintMore
attribute [local go_sem] max2_int min2_int max_two min_two max_three min_three max_four min_four   -- for this text's walks alone
set_option linter.unusedVariables false
set_option linter.unusedSimpArgs false

/-! ### spec_DrawMachSet: function 25 -/
def spec_DrawMachSet.f (k:Nat) (l0:List Int):Option (List Int × Int × Int):=(spec_l6Open.f l0).bind fun bt648=>((spec_l91Machine.f k bt648.1 bt648.2).bind fun bt651=>(some (bt651.1,bt651.2.1,bt651.2.2.1)))
theorem spec_DrawMachSet.mono:∀ a0 k,LeO (spec_DrawMachSet.f k a0) (spec_DrawMachSet.f (k+1) a0):=by
 intro a0 k
 unfold spec_DrawMachSet.f
 repeat' first
   | (with_reducible exact spec_l91Machine.mono _ _ _)
   | (with_reducible exact LeO.refl _)
   | (with_reducible exact LeO.none _)
   | (with_reducible refine LeO.ite ?_ ?_)
   | (with_reducible refine LeO.bind ?_ (fun _=>?_))
   | exact spec_l91Machine.mono _ _ _
   | exact LeO.none _
   | refine LeO.ite ?_ ?_
   | refine LeO.bind ?_ (fun _=>?_)
set_option maxHeartbeats 8000000 in
set_option maxRecDepth 100000 in
theorem spec_DrawMachSet.calls (k:Nat) (A0:Option Addr) (c0:Nat) (l0:List Int) (r1:List Int) (r2:Int) (r3:Int) (w:World) (hr0:Kd.C (Kd.int .u8) w A0 l0.length l0) (hc0:l0.length≤c0) (h:spec_DrawMachSet.f k l0=some (r1,r2,r3)) :
  Calls Try.prog 25 #[.slice A0 l0.length c0] w fun e w'=>∃ v0_:Value,e=.returned (.agg #[v0_,.int .i64 r2,.int .i64 r3])∧Kd.R (Kd.int .i64) 3 w' w.heap.size (fun _=>True) v0_ r1∧Below w.heap.size w w':=by
 have hu31:=Try.underlying31
 have HR0:=Aside0.mk hr0
 have HC0:=Aside0.mk hc0
 clear hr0 hc0
 have HB:=Aside0.mk (Below.refl w.heap.size w)
 have H:((spec_l6Open.f l0).bind fun bt648=>((spec_l91Machine.f k bt648.1 bt648.2).bind fun bt651=>(some (bt651.1,bt651.2.1,bt651.2.2.1))))=some (r1,r2,r3):=h
 clear h
 replace H:=Option.bind_eq_some_iff.mp H
 obtain ⟨⟨t648,t649⟩,A20,H⟩:=H
 replace H:((spec_l91Machine.f k t648 t649).bind fun bt651=>(some (bt651.1,bt651.2.1,bt651.2.2.1)))=some (r1,r2,r3):=H
 have A2:=Aside0.mk A20
 clear A20
 replace H:=Option.bind_eq_some_iff.mp H
 obtain ⟨⟨t651,t654,t655,t656⟩,A30,H⟩:=H
 replace H:(some (t651,t654,t655))=some (r1,r2,r3):=H
 have A3:=Aside0.mk A30
 clear A30
 simp only [Option.some.injEq,Prod.mk.injEq] at H
 obtain ⟨rfl,rfl,rfl⟩:=H
 go_enter Try.func25,Try.ntmps25
 go_wp2_with (first|((with_reducible refine gate_dst (N:=2) rfl ?_);refine box_event ?hg (N:=2) ?hd (cs:=#[.slice none 0 0,.int .i64 0,.int .i64 0]) (t:=31) ?hr ?_;(case hd=>rfl);(case hg=>rfl);(case hr=>first|(go_simp;done)|(go_simp;rfl));intro gb647 hg w4 hbox hb;have n0_:=Aside0.mk (yP (by repeat (first|(with_reducible first|exact HB.out|apply yA|apply yB|apply yC)|exact HB.out)) hb);have n1_:=Aside0.mk (hbox);have n2_:=Aside0.mk ((by rw [hg];exact (yQ (by repeat (first|(with_reducible first|exact HB.out|apply yA|apply yB|apply yC)|exact HB.out))):w.heap.size≤gb647));have n3_:=Aside0.mk ((by rw [hg];exact (yQ (by repeat (first|(with_reducible first|exact HB.out|apply yA|apply yB|apply yC)|exact HB.out))):w.heap.size≤gb647));clear HB;have HB:=n0_;have BK647:=n1_;have GW647:=n2_;have GE647:=n3_;clear n0_ n1_ n2_ n3_;clear hb hbox hg)|((with_reducible refine gate_callee (f:=28) rfl ?_);refine goesL_ (some 5) rfl rfl Try.func28 (by kernel_rfl) rfl #[.slice A0 l0.length c0] rfl (by (try simp only [List.map_toArray,List.map_cons,List.map_nil]);first|done|rfl|(simp only [List.length_drop,List.length_take];rfl)) ?_;(with_reducible refine (spec_l6Open.calls _ _ l0 t648 t649 w _ ?side1 ?side2 ?side3 A2.out).mono ?_);(case side1=>repeat (first|(with_reducible first|exact HB.out|apply yA|apply yB|apply yC|refine yD ?_ GE647.out)|exact HB.out));(case side2=>exact HR0.out);(case side3=>exact HC0.out);rintro e w5 ⟨g650,rfl,hi,hb,hb2⟩;refine ⟨_,rfl,?_⟩;have n0_:=Aside0.mk (blk_below (g:=gb647) (o:=.cells #[.slice none 0 0,.int .i64 0,.int .i64 0] 31 (0,0)) (by (with_reducible repeat (first|refine yE ?_ _|refine yF ?_|refine yG ?_ _));exact BK647.out) hb2);have n1_:=Aside0.mk (hb);have n2_:=Aside0.mk (hi);have n3_:=Aside0.mk (IsS74.ne_blk hi (blk_below (g:=gb647) (o:=.cells #[.slice none 0 0,.int .i64 0,.int .i64 0] 31 (0,0)) (by (with_reducible repeat (first|refine yE ?_ _|refine yF ?_|refine yG ?_ _));exact BK647.out) hb2) (by decide));have n4_:=Aside0.mk (Ne.symm (IsS74.ne_blk hi (blk_below (g:=gb647) (o:=.cells #[.slice none 0 0,.int .i64 0,.int .i64 0] 31 (0,0)) (by (with_reducible repeat (first|refine yE ?_ _|refine yF ?_|refine yG ?_ _));exact BK647.out) hb2) (by decide)));clear BK647;clear HB;have BK647:=n0_;have HB:=n1_;have HI650:=n2_;have NB650_647:=n3_;have NB647_650:=n4_;clear n0_ n1_ n2_ n3_ n4_;(try clear hb);(try clear hb2);(try clear hk);(try clear hi))|((with_reducible refine gate_callee (f:=37) rfl ?_);refine goesL_ (some 7) rfl rfl Try.func37 (by kernel_rfl) rfl #[.pointer (some ⟨g650,0,none⟩)] rfl (by (try simp only [List.map_toArray,List.map_cons,List.map_nil]);first|done|rfl|(simp only [List.length_drop,List.length_take];rfl)) ?_;(with_reducible refine (spec_l91Machine.calls k g650 t648 t649 t651 t654 t655 t656 w _ ?side1 ?side2 A3.out).mono ?_);(case side1=>repeat (first|(with_reducible first|exact HI650.out|apply IsS74.alloc|apply IsS74.drewN|apply IsS74.drew|apply IsS74.set_1|refine IsS74.far ?_ NB650_647.out _)|exact HI650.out));(case side2=>repeat (first|(with_reducible first|exact HB.out|apply yA|apply yB|apply yC|refine yD ?_ (IsS74.ge HI650.out)|refine yD ?_ GE647.out)|exact HB.out));rintro e w6 ⟨v652,rfl,ho0,hi,hb,hk⟩;refine ⟨_,rfl,?_⟩;have n0_:=Aside0.mk (KeepBut.blk hk (g':=gb647) (o:=.cells #[.slice none 0 0,.int .i64 0,.int .i64 0] 31 (0,0)) (by (with_reducible repeat (first|refine yE ?_ _|refine yF ?_|refine yG ?_ _));exact BK647.out) NB647_650.out (by simp));have n1_:=Aside0.mk (Kd.R_lower ho0 (yQ (by repeat (first|(with_reducible first|exact HB.out|apply yA|apply yB|apply yC|refine yD ?_ (IsS74.ge HI650.out)|refine yD ?_ GE647.out)|exact HB.out))));have n2_:=Aside0.mk (hb);have n3_:=Aside0.mk (hi);clear BK647;clear HB;clear HI650;have BK647:=n0_;have HO653:=n1_;have HB:=n2_;have HI650:=n3_;clear n0_ n1_ n2_ n3_;(try clear hb);(try clear hb2);(try clear hk);(try clear hi);(try clear ho0);obtain ⟨Ao7,co7,eo7⟩:=Kd.R_slice HO653.out;subst eo7;have hnb8:=NB647_650.out;have hnc8:=NB650_647.out;have hcz9_0:w6.cell? ⟨gb647,0,none⟩=some (.slice none 0 0):=(blk_cell BK647.out 0).trans rfl;have hcz9_1:w6.cell? ⟨gb647,1,none⟩=some (.int .i64 0):=(blk_cell BK647.out 1).trans rfl;have hcz9_2:w6.cell? ⟨gb647,2,none⟩=some (.int .i64 0):=(blk_cell BK647.out 2).trans rfl;have hfz9_0:=blk_frozen BK647.out 0;have hfz9_1:=blk_frozen BK647.out 1;have hfz9_2:=blk_frozen BK647.out 2))
 refine bodyPost_ret (results_cell_row rfl _ _ gb647 31 #[.slice Ao7 t651.length co7,.int .i64 t654,.int .i64 t655] (0,0) _ rfl (by (with_reducible repeat (first|refine yE ?_ _|refine yF ?_|refine yG ?_ _));refine blk_put (cs:=#[.slice Ao7 t651.length co7,.int .i64 t654,.int .i64 0]) ?_ 2 _ rfl;(with_reducible repeat (first|refine yE ?_ _|refine yF ?_|refine yG ?_ _));refine blk_put (cs:=#[.slice Ao7 t651.length co7,.int .i64 0,.int .i64 0]) ?_ 1 _ rfl;(with_reducible repeat (first|refine yE ?_ _|refine yF ?_|refine yG ?_ _));refine blk_put (cs:=#[.slice none 0 0,.int .i64 0,.int .i64 0]) ?_ 0 _ rfl;(with_reducible repeat (first|refine yE ?_ _|refine yF ?_|refine yG ?_ _));exact BK647.out) Try.underlying31 rfl (by kernel_rfl)) rfl ?_
 exact ⟨_,by first|rfl|(simp [errW_none,errW_some]<;>rfl)|(simp [*,errW_none,errW_some]<;>rfl)|(simp [errW_none,errW_some];exact ⟨rfl,rfl⟩),by (with_reducible repeat (first|apply yH|apply yI|apply yJ));exact Kd.R_mono (Kd.R_far (p:=⟨gb647,2,none⟩) (Kd.R_far (p:=⟨gb647,1,none⟩) (Kd.R_far (p:=⟨gb647,0,none⟩) (Kd.R_types HO653.out BK647.out (by decide)) (fun _ hk=>hk.2) (.slice Ao7 t651.length co7)) (fun _ hk=>hk.2) (.int .i64 t654)) (fun _ hk=>hk.2) (.int .i64 t655)) (fun _ hk=>trivial),by repeat (first|(with_reducible first|exact HB.out|apply yA|apply yB|apply yC|refine yD ?_ (IsS74.ge HI650.out)|refine yD ?_ GE647.out)|exact HB.out)⟩

end Go.Proofs.Ytneadgionjlicaa.P

namespace Go.Proofs.Ytneadgionjlicaa.P
open Go.RowKit Go.Proofs.YtneadgionjlicaaW.PrintWords Go.Proofs.YtneadgionjlicaaW.PrintLast Go.Proofs.YtneadgionjlicaaW.PrintMore
attribute [local go_sem] max2_int min2_int max_two min_two max_three min_three max_four min_four   -- for this text's walks alone
set_option linter.unusedVariables false
set_option linter.unusedSimpArgs false

/-! ### spec_l1Bit: function 74 -/
def spec_l1Bit.f (a0:Bool):Option (Int):=if a0=true then (some 1) else (some 0)
set_option maxHeartbeats 8000000 in
set_option maxRecDepth 100000 in
theorem spec_l1Bit.calls (a0:Bool) (r:Int) (w:World) (h:spec_l1Bit.f a0=some r) :
  Calls Try.prog 74 #[.bool a0] w fun e w'=>e=.returned (.int .i64 r)∧Drawn0 w w':=by
 have H:(if a0=true then (some 1) else (some 0))=some r:=h
 clear h
 by_cases c2:a0=true
 ·subst c2
  have H1:(some 1)=some r:=by rw [if_pos rfl] at H;exact H
  clear H
  have H:=H1
  clear H1
  obtain rfl:=Option.some.inj H
  go_enter Try.func74,Try.ntmps74
  go_wp2
  go_ret
  exact ⟨by first|rfl|(simp;done)|(simp [*];done),by repeat (first|exact Drawn0.refl _|apply Drawn0.step)⟩
 ·replace c2:=Bool.eq_false_iff.mpr c2
  subst c2
  have H1:(some 0)=some r:=by rw [if_neg (show ¬ (false=true) by decide)] at H;exact H
  clear H
  have H:=H1
  clear H1
  obtain rfl:=Option.some.inj H
  go_enter Try.func74,Try.ntmps74
  go_wp2
  go_ret
  exact ⟨by first|rfl|(simp;done)|(simp [*];done),by repeat (first|exact Drawn0.refl _|apply Drawn0.step)⟩

end Go.Proofs.Ytneadgionjlicaa.P

namespace Go.Proofs.Ytneadgionjlicaa.P
open Go.RowKit Go.Proofs.YtneadgionjlicaaW.PrintWords Go.Proofs.YtneadgionjlicaaW.PrintLast Go.Proofs.YtneadgionjlicaaW.PrintMore
attribute [local go_sem] max2_int min2_int max_two min_two max_three min_three max_four min_four   -- for this text's walks alone
set_option linter.unusedVariables false
set_option linter.unusedSimpArgs false

/-! ### spec_l1Write: function 51 -/
mutual
def spec_l1Write.l0:Nat→List Int→Int→List Bool→List Bool→Option (ByteArray)
 | 0,_,_,_,_=>none
 | k+1,x3,x4,x288000,x288001=>if x4<(x288000.length:Int) then (if 0≤x4 then ((spec_l1Bit.f (rdOf false x288000 x4)).bind fun t292=>(if 0≤t292 then (if t292<2 then (if x3.length<140737488355328 then (spec_l1Write.l0 k (x3++[bt (⟨#[48,49]⟩:ByteArray) t292]) (wrap64 (x4+1)) x288000 x288001) else (none)) else (none)) else (none))) else (none)) else (if x3.length<140737488355328 then (spec_l1Write.l1 k (x3++[40]) 0 x288000 x288001) else (none))
def spec_l1Write.l1:Nat→List Int→Int→List Bool→List Bool→Option (ByteArray)
 | 0,_,_,_,_=>none
 | k+1,x3,x5,x288000,x288001=>if x5<(x288001.length:Int) then (if 0≤x5 then ((spec_l1Bit.f (rdOf false x288001 x5)).bind fun t300=>(if 0≤t300 then (if t300<2 then (if x3.length<140737488355328 then (spec_l1Write.l1 k (x3++[bt (⟨#[48,49]⟩:ByteArray) t300]) (wrap64 (x5+1)) x288000 x288001) else (none)) else (none)) else (none))) else (none)) else (if x3.length<140737488355328 then (some (strOfNums (x3++[41]))) else (none))
end
def spec_l1Write.f (k:Nat) (l0_0:List Bool) (l0_1:List Bool):Option (ByteArray):=spec_l1Write.l0 k (([]:List Int)) 0 l0_0 l0_1
theorem spec_l1Write.mono_l:∀ k,(∀ y0 y1 y2 y3,LeO (spec_l1Write.l0 k y0 y1 y2 y3) (spec_l1Write.l0 (k+1) y0 y1 y2 y3))∧(∀ y0 y1 y2 y3,LeO (spec_l1Write.l1 k y0 y1 y2 y3) (spec_l1Write.l1 (k+1) y0 y1 y2 y3))
 | 0=>⟨fun _ _ _ _ r h=>by simp [spec_l1Write.l0] at h,fun _ _ _ _ r h=>by simp [spec_l1Write.l1] at h⟩
 | k+1=>by
  obtain ⟨ih0,ih1⟩:=spec_l1Write.mono_l k
  refine ⟨?_,?_⟩
  ·intro y0 y1 y2 y3
   unfold spec_l1Write.l0
   repeat' first
   | (with_reducible exact ih0 _ _ _ _)
   | (with_reducible exact ih1 _ _ _ _)
   | (with_reducible exact LeO.refl _)
   | (with_reducible exact LeO.none _)
   | (with_reducible refine LeO.ite ?_ ?_)
   | (with_reducible refine LeO.bind ?_ (fun _=>?_))
   | exact ih0 _ _ _ _
   | exact ih1 _ _ _ _
   | exact LeO.none _
   | refine LeO.ite ?_ ?_
   | refine LeO.bind ?_ (fun _=>?_)
  ·intro y0 y1 y2 y3
   unfold spec_l1Write.l1
   repeat' first
   | (with_reducible exact ih0 _ _ _ _)
   | (with_reducible exact ih1 _ _ _ _)
   | (with_reducible exact LeO.refl _)
   | (with_reducible exact LeO.none _)
   | (with_reducible refine LeO.ite ?_ ?_)
   | (with_reducible refine LeO.bind ?_ (fun _=>?_))
   | exact ih0 _ _ _ _
   | exact ih1 _ _ _ _
   | exact LeO.none _
   | refine LeO.ite ?_ ?_
   | refine LeO.bind ?_ (fun _=>?_)
theorem spec_l1Write.mono:∀ a0 a1 k,LeO (spec_l1Write.f k a0 a1) (spec_l1Write.f (k+1) a0 a1):=by
 intro a0 a1 k
 obtain ⟨ih0,ih1⟩:=spec_l1Write.mono_l k
 unfold spec_l1Write.f
 repeat' first
   | (with_reducible exact ih0 _ _ _ _)
   | (with_reducible exact ih1 _ _ _ _)
   | (with_reducible exact LeO.refl _)
   | (with_reducible exact LeO.none _)
   | (with_reducible refine LeO.ite ?_ ?_)
   | (with_reducible refine LeO.bind ?_ (fun _=>?_))
   | exact ih0 _ _ _ _
   | exact ih1 _ _ _ _
   | exact LeO.none _
   | refine LeO.ite ?_ ?_
   | refine LeO.bind ?_ (fun _=>?_)
set_option maxHeartbeats 8000000 in
set_option maxRecDepth 100000 in
theorem spec_l1Write.calls (k:Nat) (A0_0:Option Addr) (c0_0:Nat) (l0_0:List Bool) (A0_1:Option Addr) (c0_1:Nat) (l0_1:List Bool) (r:ByteArray) (w:World) (hr0_0:Kd.C Kd.bool w A0_0 l0_0.length l0_0) (hc0_0:l0_0.length≤c0_0) (hr0_1:Kd.C Kd.bool w A0_1 l0_1.length l0_1) (hc0_1:l0_1.length≤c0_1) (h:spec_l1Write.f k l0_0 l0_1=some r) :
  Calls Try.prog 51 #[.agg #[.slice A0_0 l0_0.length c0_0,.slice A0_1 l0_1.length c0_1]] w fun e w'=>e=.returned (.string r)∧Below w.heap.size w w':=by
 have hu59:=Try.underlying59
 have HR0_0:=Aside0.mk hr0_0
 have HC0_0:=Aside0.mk hc0_0
 clear hr0_0 hc0_0
 have HR0_1:=Aside0.mk hr0_1
 have HC0_1:=Aside0.mk hc0_1
 clear hr0_1 hc0_1
 have HB:=Aside0.mk (Below.refl w.heap.size w)
 have H:(spec_l1Write.l0 k (([]:List Int)) 0 l0_0 l0_1)=some r:=h
 clear h
 obtain ⟨y288,hy288⟩:∃ y_:List Int,y_=(([]:List Int)):=⟨_,rfl⟩
 replace H:(spec_l1Write.l0 k y288 0 l0_0 l0_1)=some r:=by first|(rw [hy288];with_reducible exact H)|(have H2_:=(Option.bind_some _ _).symm.trans H;rw [hy288];with_reducible exact H2_)|(have H2_:=(Option.bind_some _ _).symm.trans H;with_reducible exact H2_)|with_reducible exact H|(rw [hy288];exact H)|exact H
 have Ny288:=Aside0.mk hy288
 clear hy288
 have H':=Aside0.mk H
 clear H
 go_enter Try.func51,Try.ntmps51
 go_wp2_with (first|((with_reducible refine gate_dst (N:=1) rfl ?_);refine box_event ?hg (N:=1) ?hd (cs:=#[.slice A0_0 l0_0.length c0_0,.slice A0_1 l0_1.length c0_1]) (t:=59) ?hr ?_;(case hd=>rfl);(case hg=>rfl);(case hr=>first|(go_simp;done)|(go_simp;rfl));intro gb287 hg w2 hbox hb;have n0_:=Aside0.mk (yP (by repeat (first|(with_reducible first|exact HB.out|apply yA|apply yB|apply yC)|exact HB.out)) hb);have n1_:=Aside0.mk (hbox);have n2_:=Aside0.mk ((by rw [hg];exact (yQ (by repeat (first|(with_reducible first|exact HB.out|apply yA|apply yB|apply yC)|exact HB.out))):w.heap.size≤gb287));have n3_:=Aside0.mk ((by rw [hg];exact (yQ (by repeat (first|(with_reducible first|exact HB.out|apply yA|apply yB|apply yC)|exact HB.out))):w.heap.size≤gb287));clear HB;have HB:=n0_;have BK287:=n1_;have GW287:=n2_;have GE287:=n3_;clear n0_ n1_ n2_ n3_;clear hb hbox hg)|((with_reducible refine gate_dst (N:=6) rfl ?_);refine Kd.R_lit (Kd.int .u8) _ 5 ?hg (N:=6) ?hd (xs:=([]:List Int)) (inner:=[]) (ok:=fun _=>True) (okp:=fun _=>True) ?hr ?hp (fun _ hk=>hk) trivial (Below.refl _ _) (Nat.le_refl _) (by simp) ?_;(case hd=>rfl);(case hg=>rfl);(case hr=>first|(go_simp;done)|(go_simp;rfl));(case hp=>exact (Reps.none _ _));intro v289 w3 ho4 hb hg_ hnew_;clear hg_ hnew_;(first|rw [← Ny288.out] at ho4|(simp only [Int.reduceToNat] at ho4;rw [← Ny288.out] at ho4));have n0_:=Aside0.mk (Kd.R_lower ho4 (yQ (by repeat (first|(with_reducible first|exact HB.out|apply yA|apply yB|apply yC|refine yD ?_ GE287.out)|exact HB.out))));have n1_:=Aside0.mk (blk_below (g:=gb287) (o:=.cells #[.slice A0_0 l0_0.length c0_0,.slice A0_1 l0_1.length c0_1] 59 (0,0)) (by (with_reducible repeat (first|refine yE ?_ _|refine yF ?_|refine yG ?_ _));exact BK287.out) hb);have n2_:=Aside0.mk (yP (by repeat (first|(with_reducible first|exact HB.out|apply yA|apply yB|apply yC|refine yD ?_ GE287.out)|exact HB.out)) hb);clear BK287;clear HB;have HO290:=n0_;have BK287:=n1_;have HB:=n2_;clear n0_ n1_ n2_;clear hb ho4))
 go_loopg [3,4] k (fun kq v3 v4 w'=>∃ (x3_1:List Int) (x4_1:Int),v4=.int .i64 x4_1∧Aside0 (spec_l1Write.l0 kq x3_1 x4_1 l0_0 l0_1=some r)∧Aside0 (kq≤k)∧Aside0 (Kd.R (Kd.int .u8) 5 w' w.heap.size (fun _=>True) v3 x3_1)∧Aside0 (w'.heap[gb287]?=some (.cells #[(.slice A0_0 l0_0.length c0_0),(.slice A0_1 l0_1.length c0_1)] 59 (0,0)))∧Aside0 (Below w.heap.size w w'))
 case atStart=>exact ⟨(y288),(0),(by first|rfl|(simp;done)|(simp [*];done)|(simp [Int.tmod_eq_emod_of_nonneg];done)),H',⟨Nat.le_refl _⟩,⟨by (with_reducible repeat (first|apply yH|apply yI|apply yJ));exact HO290.out⟩,⟨by (with_reducible repeat (first|refine yE ?_ _|refine yF ?_|refine yG ?_ _));exact BK287.out⟩,⟨by repeat (first|(with_reducible first|exact HB.out|apply yA|apply yB|apply yC|refine yD ?_ GE287.out)|exact HB.out)⟩⟩
 case round =>
  clear H'
  try clear p2
  obtain ⟨x3_1,x4_1,rfl,HA,HK1,HO_3,BK287,HB⟩:=hrel
  cases gk with
  | zero=>exact absurd HA.out (by simp [spec_l1Write.l0])
  | succ k1 =>
   have H:=HA.out
   clear HA
   simp only [spec_l1Write.l0] at H
   by_cases c5:x4_1<(l0_0.length:Int)
   ·rw [if_pos c5] at H
    have c5b0:decide (x4_1<(l0_0.length:Int))=true:=decide_eq_true c5
    clear c5
    by_cases c6:0≤x4_1
    ·rw [if_pos c6] at H
     have c6b0:decide (0≤x4_1)=true:=decide_eq_true c6
     clear c6
     replace H:=Option.bind_eq_some_iff.mp H
     obtain ⟨t292,A70,H⟩:=H
     replace H:(if 0≤t292 then (if t292<2 then (if x3_1.length<140737488355328 then (spec_l1Write.l0 k1 (x3_1++[bt (⟨#[48,49]⟩:ByteArray) t292]) (wrap64 (x4_1+1)) l0_0 l0_1) else (none)) else (none)) else (none))=some r:=H
     have A7:=Aside0.mk A70
     clear A70
     by_cases c8:0≤t292
     ·rw [if_pos c8] at H
      have c8b0:decide (0≤t292)=true:=decide_eq_true c8
      clear c8
      by_cases c9:t292<2
      ·rw [if_pos c9] at H
       have c9b0:decide (t292<2)=true:=decide_eq_true c9
       clear c9
       by_cases c11:x3_1.length<140737488355328
       ·rw [if_pos c11] at H
        have LMc11:=Aside0.mk c11
        clear c11
        obtain ⟨y293,hy293⟩:∃ y_:List Int,y_=(x3_1++[bt (⟨#[48,49]⟩:ByteArray) t292]):=⟨_,rfl⟩
        replace H:(spec_l1Write.l0 k1 y293 (wrap64 (x4_1+1)) l0_0 l0_1)=some r:=by first|(rw [hy293];with_reducible exact H)|(have H2_:=(Option.bind_some _ _).symm.trans H;rw [hy293];with_reducible exact H2_)|(have H2_:=(Option.bind_some _ _).symm.trans H;with_reducible exact H2_)|with_reducible exact H|(rw [hy293];exact H)|exact H
        have Ny293:=Aside0.mk hy293
        clear hy293
        have H':=Aside0.mk H
        clear H
        have hcz12_0:wr.cell? ⟨gb287,0,none⟩=some (.slice A0_0 l0_0.length c0_0):=(blk_cell BK287.out 0).trans rfl
        have hcz12_1:wr.cell? ⟨gb287,1,none⟩=some (.slice A0_1 l0_1.length c0_1):=(blk_cell BK287.out 1).trans rfl
        have hfz12_0:=blk_frozen BK287.out 0
        have hfz12_1:=blk_frozen BK287.out 1
        have p291:0≤(x4_1:Int):=of_decide_eq_true (by first|(with_reducible assumption)|assumption)
        have q291:x4_1<(l0_0.length:Int):=of_decide_eq_true (by first|(with_reducible assumption)|assumption)
        obtain ⟨ad291,e291,hx291_0⟩:=Kd.at_bool HR0_0.out x4_1 p291 q291
        cases e291
        replace hx291_0:=(HB.out.cell (World.block_lt_of_cell? w _ hx291_0)).trans hx291_0
        replace p291:=eq_true p291
        replace q291:=eq_true q291
        go_wp2_with (first|((with_reducible refine gate_callee (f:=74) rfl ?_);refine goesL_ (some 20) rfl rfl Try.func74 (by kernel_rfl) rfl #[.bool (rdOf false l0_0 x4_1)] rfl (by (try simp only [List.map_toArray,List.map_cons,List.map_nil]);first|done|rfl|(simp only [List.length_drop,List.length_take];rfl)) ?_;(with_reducible refine (spec_l1Bit.calls (rdOf false l0_0 x4_1) t292 _ A7.out).mono ?_);rintro e w' ⟨rfl,⟨nd,rfl⟩⟩;refine ⟨_,rfl,?_⟩;have p10:0≤(t292:Int):=of_decide_eq_true (by first|(with_reducible assumption)|assumption);have q10:t292<(2:Int):=of_decide_eq_true (by first|(with_reducible assumption)|assumption);have hx10:=bt_at (⟨#[48,49]⟩:ByteArray) t292;replace p10:=eq_true p10;replace q10:=eq_true q10)|((with_reducible refine gate_builtin (b:=.append) (xs:=#[.tmp 14,.tmp 22]) rfl ?_);at_builtin;refine Kd.R_append (Kd.int .u8) (w0:=w) w.heap.size rfl (.tmp 14) (.tmp 22) 22 5 (.int .u8 0) 1 rfl Try.underlying22 info5 rfl (by decide) (by omega) u3 x3_1 (bt (⟨#[48,49]⟩:ByteArray) t292) [.int .u8 (bt (⟨#[48,49]⟩:ByteArray) t292)] (fun _=>True) (fun _=>False) rfl rfl ?aP (fun _ hk=>hk.elim) ?aF ?aO ?aB ?aS ?aL ?_;(case aP=>exact rfl);(case aB=>exact (by repeat (first|(with_reducible first|exact HB.out|apply yA|apply yB|apply yC|refine yD ?_ GE287.out)|exact HB.out)));(case aF=>exact (fun _ _=>trivial));(case aO=>exact (by (with_reducible repeat (first|apply yH|apply yI|apply yJ));exact HO_3.out));(case aS=>exact (yQ (by repeat (first|(with_reducible first|exact HB.out|apply yA|apply yB|apply yC|refine yD ?_ GE287.out)|exact HB.out))));(case aL=>have:=LMc11.out;omega);intro v294 w13 ho hb hg hat;rw [← Ny293.out] at ho;have n0_:=Aside0.mk (blk_grown (g:=gb287) (o:=.cells #[.slice (some ad291) l0_0.length c0_0,.slice A0_1 l0_1.length c0_1] 59 (0,0)) (by (with_reducible repeat (first|refine yE ?_ _|refine yF ?_|refine yG ?_ _));exact BK287.out) hg (Kd.R_ne HO_3.out BK287.out (by decide)));have n1_:=Aside0.mk (hb);have n2_:=Aside0.mk (ho);clear BK287;clear HB;clear HO_3;have BK287:=n0_;have HB:=n1_;have HO295:=n2_;clear n0_ n1_ n2_;clear ho hb hg hat))
        go_roundg k1
        case measure=>have:=HK1.out;omega
        case rel=>exact ⟨(y293),(wrap64 (x4_1+1)),(by first|rfl|(simp;done)|(simp [*];done)|(simp [Int.tmod_eq_emod_of_nonneg];done)),H',⟨by have:=HK1.out;omega⟩,⟨by (with_reducible repeat (first|apply yH|apply yI|apply yJ));exact HO295.out⟩,⟨by (with_reducible repeat (first|refine yE ?_ _|refine yF ?_|refine yG ?_ _));exact BK287.out⟩,⟨by repeat (first|(with_reducible first|exact HB.out|apply yA|apply yB|apply yC|refine yD ?_ GE287.out)|exact HB.out)⟩⟩
       ·rw [if_neg c11] at H
        exact absurd H (by simp)
      ·rw [if_neg c9] at H
       exact absurd H (by simp)
     ·rw [if_neg c8] at H
      exact absurd H (by simp)
    ·rw [if_neg c6] at H
     exact absurd H (by simp)
   ·rw [if_neg c5] at H
    have c5b0:decide (x4_1<(l0_0.length:Int))=false:=decide_eq_false c5
    clear c5
    by_cases c14:x3_1.length<140737488355328
    ·rw [if_pos c14] at H
     have LMc14:=Aside0.mk c14
     clear c14
     obtain ⟨y296,hy296⟩:∃ y_:List Int,y_=(x3_1++[40]):=⟨_,rfl⟩
     replace H:(spec_l1Write.l1 k1 y296 0 l0_0 l0_1)=some r:=by first|(rw [hy296];with_reducible exact H)|(have H2_:=(Option.bind_some _ _).symm.trans H;rw [hy296];with_reducible exact H2_)|(have H2_:=(Option.bind_some _ _).symm.trans H;with_reducible exact H2_)|with_reducible exact H|(rw [hy296];exact H)|exact H
     have Ny296:=Aside0.mk hy296
     clear hy296
     have H':=Aside0.mk H
     clear H
     have hcz15_0:wr.cell? ⟨gb287,0,none⟩=some (.slice A0_0 l0_0.length c0_0):=(blk_cell BK287.out 0).trans rfl
     have hcz15_1:wr.cell? ⟨gb287,1,none⟩=some (.slice A0_1 l0_1.length c0_1):=(blk_cell BK287.out 1).trans rfl
     have hfz15_0:=blk_frozen BK287.out 0
     have hfz15_1:=blk_frozen BK287.out 1
     go_wp2_with (first|((with_reducible refine gate_builtin (b:=.append) (xs:=#[.tmp 24,.tmp 25]) rfl ?_);at_builtin;refine Kd.R_append (Kd.int .u8) (w0:=w) w.heap.size rfl (.tmp 24) (.tmp 25) 22 5 (.int .u8 0) 1 rfl Try.underlying22 info5 rfl (by decide) (by omega) u3 x3_1 40 [.int .u8 40] (fun _=>True) (fun _=>False) rfl rfl ?aP (fun _ hk=>hk.elim) ?aF ?aO ?aB ?aS ?aL ?_;(case aP=>exact rfl);(case aB=>exact (by repeat (first|(with_reducible first|exact HB.out|apply yA|apply yB|apply yC|refine yD ?_ GE287.out)|exact HB.out)));(case aF=>exact (fun _ _=>trivial));(case aO=>exact (by (with_reducible repeat (first|apply yH|apply yI|apply yJ));exact HO_3.out));(case aS=>exact (yQ (by repeat (first|(with_reducible first|exact HB.out|apply yA|apply yB|apply yC|refine yD ?_ GE287.out)|exact HB.out))));(case aL=>have:=LMc14.out;omega);intro v297 w16 ho hb hg hat;rw [← Ny296.out] at ho;have n0_:=Aside0.mk (blk_grown (g:=gb287) (o:=.cells #[.slice A0_0 l0_0.length c0_0,.slice A0_1 l0_1.length c0_1] 59 (0,0)) (by (with_reducible repeat (first|refine yE ?_ _|refine yF ?_|refine yG ?_ _));exact BK287.out) hg (Kd.R_ne HO_3.out BK287.out (by decide)));have n1_:=Aside0.mk (hb);have n2_:=Aside0.mk (ho);clear BK287;clear HB;clear HO_3;have BK287:=n0_;have HB:=n1_;have HO298:=n2_;clear n0_ n1_ n2_;clear ho hb hg hat))
     go_loopg [3,5] k1 (fun kq v3 v5 w'=>∃ (x3_2:List Int) (x5_2:Int),v5=.int .i64 x5_2∧Aside0 (spec_l1Write.l1 kq x3_2 x5_2 l0_0 l0_1=some r)∧Aside0 (kq≤k1)∧Aside0 (Kd.R (Kd.int .u8) 5 w' w.heap.size (fun _=>True) v3 x3_2)∧Aside0 (w'.heap[gb287]?=some (.cells #[(.slice A0_0 l0_0.length c0_0),(.slice A0_1 l0_1.length c0_1)] 59 (0,0)))∧Aside0 (Below w.heap.size w w'))
     case atStart=>exact ⟨(y296),(0),(by first|rfl|(simp;done)|(simp [*];done)|(simp [Int.tmod_eq_emod_of_nonneg];done)),H',⟨Nat.le_refl _⟩,⟨by (with_reducible repeat (first|apply yH|apply yI|apply yJ));exact HO298.out⟩,⟨by (with_reducible repeat (first|refine yE ?_ _|refine yF ?_|refine yG ?_ _));exact BK287.out⟩,⟨by repeat (first|(with_reducible first|exact HB.out|apply yA|apply yB|apply yC|refine yD ?_ GE287.out)|exact HB.out)⟩⟩
     case round =>
      clear H'
      try clear c1
      try clear p1
      try clear q1
      try clear hx1
      try clear p2
      try clear q2
      try clear hx2
      try clear c5
      try clear c5b0
      try clear c6
      try clear c6b0
      try clear p6
      try clear c7
      try clear c8
      try clear c8b0
      try clear c9
      try clear c9b0
      try clear p10
      try clear q10
      try clear hx10
      try clear c11
      try clear c14
      try clear hcz12_0
      try clear hcz12_1
      try clear hcz15_0
      try clear hcz15_1
      try clear hfz12_0
      try clear hfz12_1
      try clear hfz15_0
      try clear hfz15_1
      try clear hx291_0
      try clear p10
      try clear p2
      try clear p291
      try clear q10
      try clear q291
      obtain ⟨x3_2,x5_2,rfl,HA,HK2,HO_3,BK287,HB⟩:=hrel
      cases gk with
      | zero=>exact absurd HA.out (by simp [spec_l1Write.l1])
      | succ k2 =>
       have H:=HA.out
       clear HA
       simp only [spec_l1Write.l1] at H
       by_cases c17:x5_2<(l0_1.length:Int)
       ·rw [if_pos c17] at H
        have c17b0:decide (x5_2<(l0_1.length:Int))=true:=decide_eq_true c17
        clear c17
        by_cases c18:0≤x5_2
        ·rw [if_pos c18] at H
         have c18b0:decide (0≤x5_2)=true:=decide_eq_true c18
         clear c18
         replace H:=Option.bind_eq_some_iff.mp H
         obtain ⟨t300,A190,H⟩:=H
         replace H:(if 0≤t300 then (if t300<2 then (if x3_2.length<140737488355328 then (spec_l1Write.l1 k2 (x3_2++[bt (⟨#[48,49]⟩:ByteArray) t300]) (wrap64 (x5_2+1)) l0_0 l0_1) else (none)) else (none)) else (none))=some r:=H
         have A19:=Aside0.mk A190
         clear A190
         by_cases c20:0≤t300
         ·rw [if_pos c20] at H
          have c20b0:decide (0≤t300)=true:=decide_eq_true c20
          clear c20
          by_cases c21:t300<2
          ·rw [if_pos c21] at H
           have c21b0:decide (t300<2)=true:=decide_eq_true c21
           clear c21
           by_cases c23:x3_2.length<140737488355328
           ·rw [if_pos c23] at H
            have LMc23:=Aside0.mk c23
            clear c23
            obtain ⟨y301,hy301⟩:∃ y_:List Int,y_=(x3_2++[bt (⟨#[48,49]⟩:ByteArray) t300]):=⟨_,rfl⟩
            replace H:(spec_l1Write.l1 k2 y301 (wrap64 (x5_2+1)) l0_0 l0_1)=some r:=by first|(rw [hy301];with_reducible exact H)|(have H2_:=(Option.bind_some _ _).symm.trans H;rw [hy301];with_reducible exact H2_)|(have H2_:=(Option.bind_some _ _).symm.trans H;with_reducible exact H2_)|with_reducible exact H|(rw [hy301];exact H)|exact H
            have Ny301:=Aside0.mk hy301
            clear hy301
            have H':=Aside0.mk H
            clear H
            have hcz24_0:wr.cell? ⟨gb287,0,none⟩=some (.slice A0_0 l0_0.length c0_0):=(blk_cell BK287.out 0).trans rfl
            have hcz24_1:wr.cell? ⟨gb287,1,none⟩=some (.slice A0_1 l0_1.length c0_1):=(blk_cell BK287.out 1).trans rfl
            have hfz24_0:=blk_frozen BK287.out 0
            have hfz24_1:=blk_frozen BK287.out 1
            have p299:0≤(x5_2:Int):=of_decide_eq_true (by first|(with_reducible assumption)|assumption)
            have q299:x5_2<(l0_1.length:Int):=of_decide_eq_true (by first|(with_reducible assumption)|assumption)
            obtain ⟨ad299,e299,hx299_0⟩:=Kd.at_bool HR0_1.out x5_2 p299 q299
            cases e299
            replace hx299_0:=(HB.out.cell (World.block_lt_of_cell? w _ hx299_0)).trans hx299_0
            replace p299:=eq_true p299
            replace q299:=eq_true q299
            go_wp2_with (first|((with_reducible refine gate_callee (f:=74) rfl ?_);refine goesL_ (some 40) rfl rfl Try.func74 (by kernel_rfl) rfl #[.bool (rdOf false l0_1 x5_2)] rfl (by (try simp only [List.map_toArray,List.map_cons,List.map_nil]);first|done|rfl|(simp only [List.length_drop,List.length_take];rfl)) ?_;(with_reducible refine (spec_l1Bit.calls (rdOf false l0_1 x5_2) t300 _ A19.out).mono ?_);rintro e w' ⟨rfl,⟨nd,rfl⟩⟩;refine ⟨_,rfl,?_⟩;have p22:0≤(t300:Int):=of_decide_eq_true (by first|(with_reducible assumption)|assumption);have q22:t300<(2:Int):=of_decide_eq_true (by first|(with_reducible assumption)|assumption);have hx22:=bt_at (⟨#[48,49]⟩:ByteArray) t300;replace p22:=eq_true p22;replace q22:=eq_true q22)|((with_reducible refine gate_builtin (b:=.append) (xs:=#[.tmp 34,.tmp 42]) rfl ?_);at_builtin;refine Kd.R_append (Kd.int .u8) (w0:=w) w.heap.size rfl (.tmp 34) (.tmp 42) 22 5 (.int .u8 0) 1 rfl Try.underlying22 info5 rfl (by decide) (by omega) u3 x3_2 (bt (⟨#[48,49]⟩:ByteArray) t300) [.int .u8 (bt (⟨#[48,49]⟩:ByteArray) t300)] (fun _=>True) (fun _=>False) rfl rfl ?aP (fun _ hk=>hk.elim) ?aF ?aO ?aB ?aS ?aL ?_;(case aP=>exact rfl);(case aB=>exact (by repeat (first|(with_reducible first|exact HB.out|apply yA|apply yB|apply yC|refine yD ?_ GE287.out)|exact HB.out)));(case aF=>exact (fun _ _=>trivial));(case aO=>exact (by (with_reducible repeat (first|apply yH|apply yI|apply yJ));exact HO_3.out));(case aS=>exact (yQ (by repeat (first|(with_reducible first|exact HB.out|apply yA|apply yB|apply yC|refine yD ?_ GE287.out)|exact HB.out))));(case aL=>have:=LMc23.out;omega);intro v302 w25 ho hb hg hat;rw [← Ny301.out] at ho;have n0_:=Aside0.mk (blk_grown (g:=gb287) (o:=.cells #[.slice A0_0 l0_0.length c0_0,.slice (some ad299) l0_1.length c0_1] 59 (0,0)) (by (with_reducible repeat (first|refine yE ?_ _|refine yF ?_|refine yG ?_ _));exact BK287.out) hg (Kd.R_ne HO_3.out BK287.out (by decide)));have n1_:=Aside0.mk (hb);have n2_:=Aside0.mk (ho);clear BK287;clear HB;clear HO_3;have BK287:=n0_;have HB:=n1_;have HO303:=n2_;clear n0_ n1_ n2_;clear ho hb hg hat))
            go_roundg k2
            case measure=>have:=HK1.out;have:=HK2.out;omega
            case rel=>exact ⟨(y301),(wrap64 (x5_2+1)),(by first|rfl|(simp;done)|(simp [*];done)|(simp [Int.tmod_eq_emod_of_nonneg];done)),H',⟨by have:=HK1.out;have:=HK2.out;omega⟩,⟨by (with_reducible repeat (first|apply yH|apply yI|apply yJ));exact HO303.out⟩,⟨by (with_reducible repeat (first|refine yE ?_ _|refine yF ?_|refine yG ?_ _));exact BK287.out⟩,⟨by repeat (first|(with_reducible first|exact HB.out|apply yA|apply yB|apply yC|refine yD ?_ GE287.out)|exact HB.out)⟩⟩
           ·rw [if_neg c23] at H
            exact absurd H (by simp)
          ·rw [if_neg c21] at H
           exact absurd H (by simp)
         ·rw [if_neg c20] at H
          exact absurd H (by simp)
        ·rw [if_neg c18] at H
         exact absurd H (by simp)
       ·rw [if_neg c17] at H
        have c17b0:decide (x5_2<(l0_1.length:Int))=false:=decide_eq_false c17
        clear c17
        by_cases c26:x3_2.length<140737488355328
        ·rw [if_pos c26] at H
         have LMc26:=Aside0.mk c26
         clear c26
         obtain ⟨y304,hy304⟩:∃ y_:List Int,y_=(x3_2++[41]):=⟨_,rfl⟩
         replace H:(some (strOfNums y304))=some r:=by first|(rw [hy304];with_reducible exact H)|(have H2_:=(Option.bind_some _ _).symm.trans H;rw [hy304];with_reducible exact H2_)|(have H2_:=(Option.bind_some _ _).symm.trans H;with_reducible exact H2_)|with_reducible exact H|(rw [hy304];exact H)|exact H
         have Ny304:=Aside0.mk hy304
         clear hy304
         obtain rfl:=Option.some.inj H
         have hcz27_0:wr.cell? ⟨gb287,0,none⟩=some (.slice A0_0 l0_0.length c0_0):=(blk_cell BK287.out 0).trans rfl
         have hcz27_1:wr.cell? ⟨gb287,1,none⟩=some (.slice A0_1 l0_1.length c0_1):=(blk_cell BK287.out 1).trans rfl
         have hfz27_0:=blk_frozen BK287.out 0
         have hfz27_1:=blk_frozen BK287.out 1
         go_wp2_with (first|((with_reducible refine gate_builtin (b:=.append) (xs:=#[.tmp 44,.tmp 45]) rfl ?_);at_builtin;refine Kd.R_append (Kd.int .u8) (w0:=w) w.heap.size rfl (.tmp 44) (.tmp 45) 22 5 (.int .u8 0) 1 rfl Try.underlying22 info5 rfl (by decide) (by omega) u3 x3_2 41 [.int .u8 41] (fun _=>True) (fun _=>False) rfl rfl ?aP (fun _ hk=>hk.elim) ?aF ?aO ?aB ?aS ?aL ?_;(case aP=>exact rfl);(case aB=>exact (by repeat (first|(with_reducible first|exact HB.out|apply yA|apply yB|apply yC|refine yD ?_ GE287.out)|exact HB.out)));(case aF=>exact (fun _ _=>trivial));(case aO=>exact (by (with_reducible repeat (first|apply yH|apply yI|apply yJ));exact HO_3.out));(case aS=>exact (yQ (by repeat (first|(with_reducible first|exact HB.out|apply yA|apply yB|apply yC|refine yD ?_ GE287.out)|exact HB.out))));(case aL=>have:=LMc26.out;omega);intro v305 w28 ho hb hg hat;rw [← Ny304.out] at ho;have n0_:=Aside0.mk (blk_grown (g:=gb287) (o:=.cells #[.slice A0_0 l0_0.length c0_0,.slice A0_1 l0_1.length c0_1] 59 (0,0)) (by (with_reducible repeat (first|refine yE ?_ _|refine yF ?_|refine yG ?_ _));exact BK287.out) hg (Kd.R_ne HO_3.out BK287.out (by decide)));have n1_:=Aside0.mk (hb);have n2_:=Aside0.mk (ho);clear BK287;clear HB;clear HO_3;have BK287:=n0_;have HB:=n1_;have HO306:=n2_;clear n0_ n1_ n2_;clear ho hb hg hat;have hcv29:=own_string (P:=Try.prog) Try.underlying22 Try.underlying5 Try.underlying9 (Kd.own_of_R HO306.out)))
         go_ret
         exact ⟨by first|rfl|(simp [errW_none,errW_some]<;>rfl)|(simp [*,errW_none,errW_some]<;>rfl)|(simp [errW_none,errW_some];exact ⟨rfl,rfl⟩),by repeat (first|(with_reducible first|exact HB.out|apply yA|apply yB|apply yC|refine yD ?_ GE287.out)|exact HB.out)⟩
        ·rw [if_neg c26] at H
         exact absurd H (by simp)
    ·rw [if_neg c14] at H
     exact absurd H (by simp)

end Go.Proofs.Ytneadgionjlicaa.P

namespace Go.Proofs.Ytneadgionjlicaa.P
open Go.RowKit Go.Proofs.YtneadgionjlicaaW.PrintWords Go.Proofs.YtneadgionjlicaaW.PrintLast Go.Proofs.YtneadgionjlicaaW.PrintMore
attribute [local go_sem] max2_int min2_int max_two min_two max_three min_three max_four min_four   -- for this text's walks alone
set_option linter.unusedVariables false
set_option linter.unusedSimpArgs false

/-! ### spec_MachSet: function 26 -/
def spec_MachSet.f (k:Nat) (l0_0:List Int) (a0_1:Int) (a0_2:Int):Option (ByteArray × Bool):=(spec_MachIn.f k l0_0 a0_1 a0_2).bind fun t658=>(if t658=true then ((spec_l6mSet.f k l0_0 a0_1 a0_2).bind fun bt659=>((spec_l1Write.f k bt659.1 bt659.2).bind fun t665=>(some (t665,true)))) else (some ((⟨#[]⟩:ByteArray),false)))
theorem spec_MachSet.mono:∀ a0 a1 a2 k,LeO (spec_MachSet.f k a0 a1 a2) (spec_MachSet.f (k+1) a0 a1 a2):=by
 intro a0 a1 a2 k
 unfold spec_MachSet.f
 repeat' first
   | (with_reducible exact spec_MachIn.mono _ _ _ _)
   | (with_reducible exact spec_l1Write.mono _ _ _)
   | (with_reducible exact spec_l6mSet.mono _ _ _ _)
   | (with_reducible exact LeO.refl _)
   | (with_reducible exact LeO.none _)
   | (with_reducible refine LeO.ite ?_ ?_)
   | (with_reducible refine LeO.bind ?_ (fun _=>?_))
   | exact spec_MachIn.mono _ _ _ _
   | exact spec_l1Write.mono _ _ _
   | exact spec_l6mSet.mono _ _ _ _
   | exact LeO.none _
   | refine LeO.ite ?_ ?_
   | refine LeO.bind ?_ (fun _=>?_)
set_option maxHeartbeats 8000000 in
set_option maxRecDepth 100000 in
theorem spec_MachSet.calls (k:Nat) (A0_0:Option Addr) (c0_0:Nat) (l0_0:List Int) (a0_1:Int) (a0_2:Int) (r1:ByteArray) (r2:Bool) (w:World) (hr0_0:Kd.C (Kd.int .i64) w A0_0 l0_0.length l0_0) (hc0_0:l0_0.length≤c0_0) (h:spec_MachSet.f k l0_0 a0_1 a0_2=some (r1,r2)) :
  Calls Try.prog 26 #[.agg #[.slice A0_0 l0_0.length c0_0,.int .i64 a0_1,.int .i64 a0_2]] w fun e w'=>e=.returned (.tuple #[.string r1,.bool r2])∧Below w.heap.size w w':=by
 have hu31:=Try.underlying31
 have HR0_0:=Aside0.mk hr0_0
 have HC0_0:=Aside0.mk hc0_0
 clear hr0_0 hc0_0
 have HB:=Aside0.mk (Below.refl w.heap.size w)
 have H:((spec_MachIn.f k l0_0 a0_1 a0_2).bind fun t658=>(if t658=true then ((spec_l6mSet.f k l0_0 a0_1 a0_2).bind fun bt659=>((spec_l1Write.f k bt659.1 bt659.2).bind fun t665=>(some (t665,true)))) else (some ((⟨#[]⟩:ByteArray),false))))=some (r1,r2):=h
 clear h
 replace H:=Option.bind_eq_some_iff.mp H
 obtain ⟨t658,A20,H⟩:=H
 replace H:(if t658=true then ((spec_l6mSet.f k l0_0 a0_1 a0_2).bind fun bt659=>((spec_l1Write.f k bt659.1 bt659.2).bind fun t665=>(some (t665,true)))) else (some ((⟨#[]⟩:ByteArray),false)))=some (r1,r2):=H
 have A2:=Aside0.mk A20
 clear A20
 by_cases c3:t658=true
 ·subst c3
  have H1:((spec_l6mSet.f k l0_0 a0_1 a0_2).bind fun bt659=>((spec_l1Write.f k bt659.1 bt659.2).bind fun t665=>(some (t665,true))))=some (r1,r2):=by rw [if_pos rfl] at H;exact H
  clear H
  have H:=H1
  clear H1
  replace H:=Option.bind_eq_some_iff.mp H
  obtain ⟨⟨t659,t662⟩,A40,H⟩:=H
  replace H:((spec_l1Write.f k t659 t662).bind fun t665=>(some (t665,true)))=some (r1,r2):=H
  have A4:=Aside0.mk A40
  clear A40
  replace H:=Option.bind_eq_some_iff.mp H
  obtain ⟨t665,A50,H⟩:=H
  replace H:(some (t665,true))=some (r1,r2):=H
  have A5:=Aside0.mk A50
  clear A50
  simp only [Option.some.injEq,Prod.mk.injEq] at H
  obtain ⟨rfl,rfl⟩:=H
  go_enter Try.func26,Try.ntmps26
  go_wp2_with (first|((with_reducible refine gate_dst (N:=1) rfl ?_);refine box_event ?hg (N:=1) ?hd (cs:=#[.slice A0_0 l0_0.length c0_0,.int .i64 a0_1,.int .i64 a0_2]) (t:=31) ?hr ?_;(case hd=>rfl);(case hg=>rfl);(case hr=>first|(go_simp;done)|(go_simp;rfl));intro gb657 hg w6 hbox hb;have n0_:=Aside0.mk (yP (by repeat (first|(with_reducible first|exact HB.out|apply yA|apply yB|apply yC)|exact HB.out)) hb);have n1_:=Aside0.mk (hbox);have n2_:=Aside0.mk ((by rw [hg];exact (yQ (by repeat (first|(with_reducible first|exact HB.out|apply yA|apply yB|apply yC)|exact HB.out))):w.heap.size≤gb657));have n3_:=Aside0.mk ((by rw [hg];exact (yQ (by repeat (first|(with_reducible first|exact HB.out|apply yA|apply yB|apply yC)|exact HB.out))):w.heap.size≤gb657));clear HB;have HB:=n0_;have BK657:=n1_;have GW657:=n2_;have GE657:=n3_;clear n0_ n1_ n2_ n3_;clear hb hbox hg;have hcz7_0:w6.cell? ⟨gb657,0,none⟩=some (.slice A0_0 l0_0.length c0_0):=(blk_cell BK657.out 0).trans rfl;have hcz7_1:w6.cell? ⟨gb657,1,none⟩=some (.int .i64 a0_1):=(blk_cell BK657.out 1).trans rfl;have hcz7_2:w6.cell? ⟨gb657,2,none⟩=some (.int .i64 a0_2):=(blk_cell BK657.out 2).trans rfl;have hfz7_0:=blk_frozen BK657.out 0;have hfz7_1:=blk_frozen BK657.out 1;have hfz7_2:=blk_frozen BK657.out 2)|((with_reducible refine gate_callee (f:=38) rfl ?_);refine goesL_ (some 5) rfl rfl Try.func38 (by kernel_rfl) rfl #[.agg #[.slice A0_0 l0_0.length c0_0,.int .i64 a0_1,.int .i64 a0_2]] rfl (by (try simp only [List.map_toArray,List.map_cons,List.map_nil]);first|done|rfl|(simp only [List.length_drop,List.length_take];rfl)) ?_;(with_reducible refine (spec_MachIn.calls k _ _ l0_0 a0_1 a0_2 true _ ?side1 ?side2 A2.out).mono ?_);(case side1=>repeat (first|exact (Kd.C_below HR0_0.out HB.out)|(with_reducible refine Kd.C_alloc ?_ _)|(with_reducible refine Kd.C_drewN ?_ _)|(with_reducible refine Kd.C_drew ?_)));(case side2=>exact HC0_0.out);rintro e w8 ⟨rfl,hb⟩;refine ⟨_,rfl,?_⟩;have n0_:=Aside0.mk (blk_below (g:=gb657) (o:=.cells #[.slice A0_0 l0_0.length c0_0,.int .i64 a0_1,.int .i64 a0_2] 31 (0,0)) (by (with_reducible repeat (first|refine yE ?_ _|refine yF ?_|refine yG ?_ _));exact BK657.out) hb);have n1_:=Aside0.mk (yP (by repeat (first|(with_reducible first|exact HB.out|apply yA|apply yB|apply yC|refine yD ?_ GE657.out)|exact HB.out)) hb);clear BK657;clear HB;have BK657:=n0_;have HB:=n1_;clear n0_ n1_;(try clear hb);(try clear hb2);(try clear hk);(try clear hi);have hcz9_0:w8.cell? ⟨gb657,0,none⟩=some (.slice A0_0 l0_0.length c0_0):=(blk_cell BK657.out 0).trans rfl;have hcz9_1:w8.cell? ⟨gb657,1,none⟩=some (.int .i64 a0_1):=(blk_cell BK657.out 1).trans rfl;have hcz9_2:w8.cell? ⟨gb657,2,none⟩=some (.int .i64 a0_2):=(blk_cell BK657.out 2).trans rfl;have hfz9_0:=blk_frozen BK657.out 0;have hfz9_1:=blk_frozen BK657.out 1;have hfz9_2:=blk_frozen BK657.out 2)|((with_reducible refine gate_callee (f:=39) rfl ?_);refine goesL_ (some 8) rfl rfl Try.func39 (by kernel_rfl) rfl #[.agg #[.slice A0_0 l0_0.length c0_0,.int .i64 a0_1,.int .i64 a0_2]] rfl (by (try simp only [List.map_toArray,List.map_cons,List.map_nil]);first|done|rfl|(simp only [List.length_drop,List.length_take];rfl)) ?_;(with_reducible refine (spec_l6mSet.calls k _ _ l0_0 a0_1 a0_2 t659 t662 _ ?side1 ?side2 A4.out).mono ?_);(case side1=>repeat (first|exact (Kd.C_below HR0_0.out HB.out)|(with_reducible refine Kd.C_alloc ?_ _)|(with_reducible refine Kd.C_drewN ?_ _)|(with_reducible refine Kd.C_drew ?_)));(case side2=>exact HC0_0.out);rintro e w10 ⟨v660,v663,rfl,ho0,ho1,hb⟩;refine ⟨_,rfl,?_⟩;have n0_:=Aside0.mk (Kd.V_lower (Kd.V_mono (ok':=fun k_=>k_≠gb657) ho0 (fun k_ hk_=>(Kd.freshB (g:=gb657) (o:=.cells #[.slice A0_0 l0_0.length c0_0,.int .i64 a0_1,.int .i64 a0_2] 31 (0,0)) (by (with_reducible repeat (first|refine yE ?_ _|refine yF ?_|refine yG ?_ _));exact BK657.out) k_ hk_))) (yQ (by repeat (first|(with_reducible first|exact HB.out|apply yA|apply yB|apply yC|refine yD ?_ GE657.out)|exact HB.out))));have n1_:=Aside0.mk (Kd.V_lower (Kd.V_mono (ok':=fun k_=>k_≠gb657) ho1 (fun k_ hk_=>(Kd.freshB (g:=gb657) (o:=.cells #[.slice A0_0 l0_0.length c0_0,.int .i64 a0_1,.int .i64 a0_2] 31 (0,0)) (by (with_reducible repeat (first|refine yE ?_ _|refine yF ?_|refine yG ?_ _));exact BK657.out) k_ hk_))) (yQ (by repeat (first|(with_reducible first|exact HB.out|apply yA|apply yB|apply yC|refine yD ?_ GE657.out)|exact HB.out))));have n2_:=Aside0.mk (blk_below (g:=gb657) (o:=.cells #[.slice A0_0 l0_0.length c0_0,.int .i64 a0_1,.int .i64 a0_2] 31 (0,0)) (by (with_reducible repeat (first|refine yE ?_ _|refine yF ?_|refine yG ?_ _));exact BK657.out) hb);have n3_:=Aside0.mk (yP (by repeat (first|(with_reducible first|exact HB.out|apply yA|apply yB|apply yC|refine yD ?_ GE657.out)|exact HB.out)) hb);clear BK657;clear HB;have HO661:=n0_;have HO664:=n1_;have BK657:=n2_;have HB:=n3_;clear n0_ n1_ n2_ n3_;(try clear hb);(try clear hb2);(try clear hk);(try clear hi);(try clear ho0);(try clear ho1);obtain ⟨Ao11,co11,eo11⟩:=Kd.V_slice HO661.out;subst eo11;obtain ⟨Ao12,co12,eo12⟩:=Kd.V_slice HO664.out;subst eo12)|((with_reducible refine gate_callee (f:=51) rfl ?_);refine goesL_ (some 9) rfl rfl Try.func51 (by kernel_rfl) rfl #[.agg #[.slice Ao11 t659.length co11,.slice Ao12 t662.length co12]] rfl (by (try simp only [List.map_toArray,List.map_cons,List.map_nil]);first|done|rfl|(simp only [List.length_drop,List.length_take];rfl)) ?_;(with_reducible refine (spec_l1Write.calls k _ _ t659 _ _ t662 t665 _ ?side1 ?side2 ?side3 ?side4 A5.out).mono ?_);(case side1=>repeat (first|exact (Kd.V_reads' HO661.out).2.2|(with_reducible refine Kd.C_alloc ?_ _)|(with_reducible refine Kd.C_drewN ?_ _)|(with_reducible refine Kd.C_drew ?_)));(case side2=>exact (Kd.V_reads' HO661.out).2.1);(case side3=>repeat (first|exact (Kd.V_reads' HO664.out).2.2|(with_reducible refine Kd.C_alloc ?_ _)|(with_reducible refine Kd.C_drewN ?_ _)|(with_reducible refine Kd.C_drew ?_)));(case side4=>exact (Kd.V_reads' HO664.out).2.1);rintro e w13 ⟨rfl,hb⟩;refine ⟨_,rfl,?_⟩;have n0_:=Aside0.mk (Kd.V_below (by (with_reducible repeat (first|apply Kd.V_alloc|apply Kd.V_drewN|apply Kd.V_drew));exact HO661.out) hb);have n1_:=Aside0.mk (Kd.V_below (by (with_reducible repeat (first|apply Kd.V_alloc|apply Kd.V_drewN|apply Kd.V_drew));exact HO664.out) hb);have n2_:=Aside0.mk (blk_below (g:=gb657) (o:=.cells #[.slice A0_0 l0_0.length c0_0,.int .i64 a0_1,.int .i64 a0_2] 31 (0,0)) (by (with_reducible repeat (first|refine yE ?_ _|refine yF ?_|refine yG ?_ _));exact BK657.out) hb);have n3_:=Aside0.mk (yP (by repeat (first|(with_reducible first|exact HB.out|apply yA|apply yB|apply yC|refine yD ?_ GE657.out)|exact HB.out)) hb);clear HO661;clear HO664;clear BK657;clear HB;have HO661:=n0_;have HO664:=n1_;have BK657:=n2_;have HB:=n3_;clear n0_ n1_ n2_ n3_;(try clear hb);(try clear hb2);(try clear hk);(try clear hi)))
  go_ret2
  exact ⟨by first|rfl|(simp [errW_none,errW_some]<;>rfl)|(simp [*,errW_none,errW_some]<;>rfl)|(simp [errW_none,errW_some];exact ⟨rfl,rfl⟩),by repeat (first|(with_reducible first|exact HB.out|apply yA|apply yB|apply yC|refine yD ?_ GE657.out)|exact HB.out)⟩
 ·replace c3:=Bool.eq_false_iff.mpr c3
  subst c3
  have H1:(some ((⟨#[]⟩:ByteArray),false))=some (r1,r2):=by rw [if_neg (show ¬ (false=true) by decide)] at H;exact H
  clear H
  have H:=H1
  clear H1
  simp only [Option.some.injEq,Prod.mk.injEq] at H
  obtain ⟨rfl,rfl⟩:=H
  go_enter Try.func26,Try.ntmps26
  go_wp2_with (first|((with_reducible refine gate_dst (N:=1) rfl ?_);refine box_event ?hg (N:=1) ?hd (cs:=#[.slice A0_0 l0_0.length c0_0,.int .i64 a0_1,.int .i64 a0_2]) (t:=31) ?hr ?_;(case hd=>rfl);(case hg=>rfl);(case hr=>first|(go_simp;done)|(go_simp;rfl));intro gb657 hg w14 hbox hb;have n0_:=Aside0.mk (yP (by repeat (first|(with_reducible first|exact HB.out|apply yA|apply yB|apply yC)|exact HB.out)) hb);have n1_:=Aside0.mk (hbox);have n2_:=Aside0.mk ((by rw [hg];exact (yQ (by repeat (first|(with_reducible first|exact HB.out|apply yA|apply yB|apply yC)|exact HB.out))):w.heap.size≤gb657));have n3_:=Aside0.mk ((by rw [hg];exact (yQ (by repeat (first|(with_reducible first|exact HB.out|apply yA|apply yB|apply yC)|exact HB.out))):w.heap.size≤gb657));clear HB;have HB:=n0_;have BK657:=n1_;have GW657:=n2_;have GE657:=n3_;clear n0_ n1_ n2_ n3_;clear hb hbox hg;have hcz15_0:w14.cell? ⟨gb657,0,none⟩=some (.slice A0_0 l0_0.length c0_0):=(blk_cell BK657.out 0).trans rfl;have hcz15_1:w14.cell? ⟨gb657,1,none⟩=some (.int .i64 a0_1):=(blk_cell BK657.out 1).trans rfl;have hcz15_2:w14.cell? ⟨gb657,2,none⟩=some (.int .i64 a0_2):=(blk_cell BK657.out 2).trans rfl;have hfz15_0:=blk_frozen BK657.out 0;have hfz15_1:=blk_frozen BK657.out 1;have hfz15_2:=blk_frozen BK657.out 2)|((with_reducible refine gate_callee (f:=38) rfl ?_);refine goesL_ (some 5) rfl rfl Try.func38 (by kernel_rfl) rfl #[.agg #[.slice A0_0 l0_0.length c0_0,.int .i64 a0_1,.int .i64 a0_2]] rfl (by (try simp only [List.map_toArray,List.map_cons,List.map_nil]);first|done|rfl|(simp only [List.length_drop,List.length_take];rfl)) ?_;(with_reducible refine (spec_MachIn.calls k _ _ l0_0 a0_1 a0_2 false _ ?side1 ?side2 A2.out).mono ?_);(case side1=>repeat (first|exact (Kd.C_below HR0_0.out HB.out)|(with_reducible refine Kd.C_alloc ?_ _)|(with_reducible refine Kd.C_drewN ?_ _)|(with_reducible refine Kd.C_drew ?_)));(case side2=>exact HC0_0.out);rintro e w16 ⟨rfl,hb⟩;refine ⟨_,rfl,?_⟩;have n0_:=Aside0.mk (blk_below (g:=gb657) (o:=.cells #[.slice A0_0 l0_0.length c0_0,.int .i64 a0_1,.int .i64 a0_2] 31 (0,0)) (by (with_reducible repeat (first|refine yE ?_ _|refine yF ?_|refine yG ?_ _));exact BK657.out) hb);have n1_:=Aside0.mk (yP (by repeat (first|(with_reducible first|exact HB.out|apply yA|apply yB|apply yC|refine yD ?_ GE657.out)|exact HB.out)) hb);clear BK657;clear HB;have BK657:=n0_;have HB:=n1_;clear n0_ n1_;(try clear hb);(try clear hb2);(try clear hk);(try clear hi)))
  go_ret2
  exact ⟨by first|rfl|(simp [errW_none,errW_some]<;>rfl)|(simp [*,errW_none,errW_some]<;>rfl)|(simp [errW_none,errW_some];exact ⟨rfl,rfl⟩),by repeat (first|(with_reducible first|exact HB.out|apply yA|apply yB|apply yC|refine yD ?_ GE657.out)|exact HB.out)⟩

end Go.Proofs.Ytneadgionjlicaa.P

namespace Go.Proofs.Ytneadgionjlicaa.P
open Go.RowKit Go.Proofs.YtneadgionjlicaaW.PrintWords Go.Proofs.YtneadgionjlicaaW.PrintLast Go.Proofs.YtneadgionjlicaaW.PrintMore
attribute [local go_sem] max2_int min2_int max_two min_two max_three min_three max_four min_four   -- for this text's walks alone
set_option linter.unusedVariables false
set_option linter.unusedSimpArgs false

/-! ### laws_FnMachSet: function 7 -/
mutual
noncomputable def laws_FnMachSet.j0:Nat→ByteArray→Bool→Bool→List Int→Int→Int→Option (Bool)
 | 0,_,_,_,_,_,_=>none
 | k+1,x4,x5,x8,x679000,x679001,x679002=>if x8=true then (laws_FnMachSet.j1 k x4 x8 (!x5) x679000 x679001 x679002) else (laws_FnMachSet.j1 k x4 x8 true x679000 x679001 x679002)
noncomputable def laws_FnMachSet.j1:Nat→ByteArray→Bool→Bool→List Int→Int→Int→Option (Bool)
 | 0,_,_,_,_,_,_=>none
 | k+1,x4,x8,x38,x679000,x679001,x679002=>if x38=true then (some x8) else (laws_FnMachSet.l0 k x4 0 x679000 x679001 x679002)
noncomputable def laws_FnMachSet.l0:Nat→ByteArray→Int→List Int→Int→Int→Option (Bool)
 | 0,_,_,_,_,_=>none
 | k+1,x4,x9,x679000,x679001,x679002=>if x9≤150 then ((impl_SetHas.f k x4 x9).bind fun t683=>((impl_MachTakes.f k x679000 x679001 x679002 x9).bind fun t684=>(if (t683 != t684)=true then (some false) else (laws_FnMachSet.l0 k x4 (wrap64 (x9+1)) x679000 x679001 x679002)))) else (some true)
end
noncomputable def laws_FnMachSet.f (k:Nat) (l0:List Int):Option (Bool):=if (l0.length:Int) > 1048576 then (some true) else ((spec_DrawMachSet.f k l0).bind fun bt673=>((impl_MachSet.f bt673.1 bt673.2.1 bt673.2.2).bind fun bt679=>((spec_MachSet.f k bt673.1 bt673.2.1 bt673.2.2).bind fun bt681=>(if bt679.1.toList=bt681.1.toList then (laws_FnMachSet.j0 k bt679.1 bt679.2 (bt679.2 == bt681.2) bt673.1 bt673.2.1 bt673.2.2) else (laws_FnMachSet.j0 k bt679.1 bt679.2 false bt673.1 bt673.2.1 bt673.2.2)))))
theorem laws_FnMachSet.mono_l:∀ k,(∀ y0 y1 y2 y3 y4 y5,LeO (laws_FnMachSet.j0 k y0 y1 y2 y3 y4 y5) (laws_FnMachSet.j0 (k+1) y0 y1 y2 y3 y4 y5))∧(∀ y0 y1 y2 y3 y4 y5,LeO (laws_FnMachSet.j1 k y0 y1 y2 y3 y4 y5) (laws_FnMachSet.j1 (k+1) y0 y1 y2 y3 y4 y5))∧(∀ y0 y1 y2 y3 y4,LeO (laws_FnMachSet.l0 k y0 y1 y2 y3 y4) (laws_FnMachSet.l0 (k+1) y0 y1 y2 y3 y4))
 | 0=>⟨fun _ _ _ _ _ _ r h=>by simp [laws_FnMachSet.j0] at h,fun _ _ _ _ _ _ r h=>by simp [laws_FnMachSet.j1] at h,fun _ _ _ _ _ r h=>by simp [laws_FnMachSet.l0] at h⟩
 | k+1=>by
  obtain ⟨ih0,ih1,ih2⟩:=laws_FnMachSet.mono_l k
  refine ⟨?_,?_,?_⟩
  ·intro y0 y1 y2 y3 y4 y5
   unfold laws_FnMachSet.j0
   repeat' first
   | (with_reducible exact ih0 _ _ _ _ _ _)
   | (with_reducible exact ih1 _ _ _ _ _ _)
   | (with_reducible exact ih2 _ _ _ _ _)
   | (with_reducible exact impl_MachTakes.mono _ _ _ _ _)
   | (with_reducible exact impl_SetHas.mono _ _ _)
   | (with_reducible exact spec_DrawMachSet.mono _ _)
   | (with_reducible exact spec_MachSet.mono _ _ _ _)
   | (with_reducible exact LeO.refl _)
   | (with_reducible exact LeO.none _)
   | (with_reducible refine LeO.ite ?_ ?_)
   | (with_reducible refine LeO.bind ?_ (fun _=>?_))
   | exact ih0 _ _ _ _ _ _
   | exact ih1 _ _ _ _ _ _
   | exact ih2 _ _ _ _ _
   | exact impl_MachTakes.mono _ _ _ _ _
   | exact impl_SetHas.mono _ _ _
   | exact spec_DrawMachSet.mono _ _
   | exact spec_MachSet.mono _ _ _ _
   | exact LeO.none _
   | refine LeO.ite ?_ ?_
   | refine LeO.bind ?_ (fun _=>?_)
  ·intro y0 y1 y2 y3 y4 y5
   unfold laws_FnMachSet.j1
   repeat' first
   | (with_reducible exact ih0 _ _ _ _ _ _)
   | (with_reducible exact ih1 _ _ _ _ _ _)
   | (with_reducible exact ih2 _ _ _ _ _)
   | (with_reducible exact impl_MachTakes.mono _ _ _ _ _)
   | (with_reducible exact impl_SetHas.mono _ _ _)
   | (with_reducible exact spec_DrawMachSet.mono _ _)
   | (with_reducible exact spec_MachSet.mono _ _ _ _)
   | (with_reducible exact LeO.refl _)
   | (with_reducible exact LeO.none _)
   | (with_reducible refine LeO.ite ?_ ?_)
   | (with_reducible refine LeO.bind ?_ (fun _=>?_))
   | exact ih0 _ _ _ _ _ _
   | exact ih1 _ _ _ _ _ _
   | exact ih2 _ _ _ _ _
   | exact impl_MachTakes.mono _ _ _ _ _
   | exact impl_SetHas.mono _ _ _
   | exact spec_DrawMachSet.mono _ _
   | exact spec_MachSet.mono _ _ _ _
   | exact LeO.none _
   | refine LeO.ite ?_ ?_
   | refine LeO.bind ?_ (fun _=>?_)
  ·intro y0 y1 y2 y3 y4
   unfold laws_FnMachSet.l0
   repeat' first
   | (with_reducible exact ih0 _ _ _ _ _ _)
   | (with_reducible exact ih1 _ _ _ _ _ _)
   | (with_reducible exact ih2 _ _ _ _ _)
   | (with_reducible exact impl_MachTakes.mono _ _ _ _ _)
   | (with_reducible exact impl_SetHas.mono _ _ _)
   | (with_reducible exact spec_DrawMachSet.mono _ _)
   | (with_reducible exact spec_MachSet.mono _ _ _ _)
   | (with_reducible exact LeO.refl _)
   | (with_reducible exact LeO.none _)
   | (with_reducible refine LeO.ite ?_ ?_)
   | (with_reducible refine LeO.bind ?_ (fun _=>?_))
   | exact ih0 _ _ _ _ _ _
   | exact ih1 _ _ _ _ _ _
   | exact ih2 _ _ _ _ _
   | exact impl_MachTakes.mono _ _ _ _ _
   | exact impl_SetHas.mono _ _ _
   | exact spec_DrawMachSet.mono _ _
   | exact spec_MachSet.mono _ _ _ _
   | exact LeO.none _
   | refine LeO.ite ?_ ?_
   | refine LeO.bind ?_ (fun _=>?_)
theorem laws_FnMachSet.mono:∀ a0 k,LeO (laws_FnMachSet.f k a0) (laws_FnMachSet.f (k+1) a0):=by
 intro a0 k
 obtain ⟨ih0,ih1,ih2⟩:=laws_FnMachSet.mono_l k
 unfold laws_FnMachSet.f
 repeat' first
   | (with_reducible exact ih0 _ _ _ _ _ _)
   | (with_reducible exact ih1 _ _ _ _ _ _)
   | (with_reducible exact ih2 _ _ _ _ _)
   | (with_reducible exact impl_MachTakes.mono _ _ _ _ _)
   | (with_reducible exact impl_SetHas.mono _ _ _)
   | (with_reducible exact spec_DrawMachSet.mono _ _)
   | (with_reducible exact spec_MachSet.mono _ _ _ _)
   | (with_reducible exact LeO.refl _)
   | (with_reducible exact LeO.none _)
   | (with_reducible refine LeO.ite ?_ ?_)
   | (with_reducible refine LeO.bind ?_ (fun _=>?_))
   | exact ih0 _ _ _ _ _ _
   | exact ih1 _ _ _ _ _ _
   | exact ih2 _ _ _ _ _
   | exact impl_MachTakes.mono _ _ _ _ _
   | exact impl_SetHas.mono _ _ _
   | exact spec_DrawMachSet.mono _ _
   | exact spec_MachSet.mono _ _ _ _
   | exact LeO.none _
   | refine LeO.ite ?_ ?_
   | refine LeO.bind ?_ (fun _=>?_)
set_option maxHeartbeats 8000000 in
set_option maxRecDepth 100000 in
theorem laws_FnMachSet.calls (k:Nat) (A0:Option Addr) (c0:Nat) (l0:List Int) (r:Bool) (w:World) (hr0:Kd.C (Kd.int .u8) w A0 l0.length l0) (hc0:l0.length≤c0) (h:laws_FnMachSet.f k l0=some r) :
  Calls Try.prog 7 #[.slice A0 l0.length c0] w fun e w'=>e=.returned (.bool r)∧Below w.heap.size w w':=by
 have hu31:=Try.underlying31
 have HR0:=Aside0.mk hr0
 have HC0:=Aside0.mk hc0
 clear hr0 hc0
 have HB:=Aside0.mk (Below.refl w.heap.size w)
 have H:(if (l0.length:Int) > 1048576 then (some true) else ((spec_DrawMachSet.f k l0).bind fun bt673=>((impl_MachSet.f bt673.1 bt673.2.1 bt673.2.2).bind fun bt679=>((spec_MachSet.f k bt673.1 bt673.2.1 bt673.2.2).bind fun bt681=>(if bt679.1.toList=bt681.1.toList then (laws_FnMachSet.j0 k bt679.1 bt679.2 (bt679.2 == bt681.2) bt673.1 bt673.2.1 bt673.2.2) else (laws_FnMachSet.j0 k bt679.1 bt679.2 false bt673.1 bt673.2.1 bt673.2.2))))))=some r:=h
 clear h
 by_cases c2:(l0.length:Int) > 1048576
 ·rw [if_pos c2] at H
  have c2b0:decide (1048576<(l0.length:Int))=true:=decide_eq_true c2
  have c2b1:decide (1048576<l0.length)=true:=decide_eq_true (by omega)
  clear c2
  obtain rfl:=Option.some.inj H
  go_enter Try.func7,Try.ntmps7
  go_wp2
  go_ret
  exact ⟨by first|rfl|(simp [errW_none,errW_some]<;>rfl)|(simp [*,errW_none,errW_some]<;>rfl)|(simp [errW_none,errW_some];exact ⟨rfl,rfl⟩),by repeat (first|(with_reducible first|exact HB.out|apply yA|apply yB|apply yC)|exact HB.out)⟩
 ·rw [if_neg c2] at H
  have c2b0:decide (1048576<(l0.length:Int))=false:=decide_eq_false c2
  have c2b1:decide (1048576<l0.length)=false:=decide_eq_false (by omega)
  clear c2
  replace H:=Option.bind_eq_some_iff.mp H
  obtain ⟨⟨t673,t676,t677⟩,A30,H⟩:=H
  replace H:((impl_MachSet.f t673 t676 t677).bind fun bt679=>((spec_MachSet.f k t673 t676 t677).bind fun bt681=>(if bt679.1.toList=bt681.1.toList then (laws_FnMachSet.j0 k bt679.1 bt679.2 (bt679.2 == bt681.2) t673 t676 t677) else (laws_FnMachSet.j0 k bt679.1 bt679.2 false t673 t676 t677))))=some r:=H
  have A3:=Aside0.mk A30
  clear A30
  replace H:=Option.bind_eq_some_iff.mp H
  obtain ⟨⟨t679,t680⟩,A40,H⟩:=H
  replace H:((spec_MachSet.f k t673 t676 t677).bind fun bt681=>(if t679.toList=bt681.1.toList then (laws_FnMachSet.j0 k t679 t680 (t680 == bt681.2) t673 t676 t677) else (laws_FnMachSet.j0 k t679 t680 false t673 t676 t677)))=some r:=H
  have A4:=Aside0.mk A40
  clear A40
  replace H:=Option.bind_eq_some_iff.mp H
  obtain ⟨⟨t681,t682⟩,A50,H⟩:=H
  replace H:(if t679.toList=t681.toList then (laws_FnMachSet.j0 k t679 t680 (t680 == t682) t673 t676 t677) else (laws_FnMachSet.j0 k t679 t680 false t673 t676 t677))=some r:=H
  have A5:=Aside0.mk A50
  clear A50
  have HC6:=Aside0.mk H
  clear H
  go_enter Try.func7,Try.ntmps7
  go_upto_region 6 with (first|((with_reducible refine gate_callee (f:=25) rfl ?_);refine goesL_ (some 14) rfl rfl Try.func25 (by kernel_rfl) rfl #[.slice A0 l0.length c0] rfl (by (try simp only [List.map_toArray,List.map_cons,List.map_nil]);first|done|rfl|(simp only [List.length_drop,List.length_take];rfl)) ?_;(with_reducible refine (spec_DrawMachSet.calls k _ _ l0 t673 t676 t677 _ ?side1 ?side2 A3.out).mono ?_);(case side1=>repeat (first|exact HR0.out|(with_reducible refine Kd.C_alloc ?_ _)|(with_reducible refine Kd.C_drewN ?_ _)|(with_reducible refine Kd.C_drew ?_)));(case side2=>exact HC0.out);rintro e w7 ⟨v674,rfl,ho0,hb⟩;refine ⟨_,rfl,?_⟩;have n0_:=Aside0.mk (Kd.R_lower ho0 (yQ (by repeat (first|(with_reducible first|exact HB.out|apply yA|apply yB|apply yC)|exact HB.out))));have n1_:=Aside0.mk (yP (by repeat (first|(with_reducible first|exact HB.out|apply yA|apply yB|apply yC)|exact HB.out)) hb);clear HB;have HO675:=n0_;have HB:=n1_;clear n0_ n1_;(try clear hb);(try clear hb2);(try clear hk);(try clear hi);(try clear ho0))|((with_reducible refine gate_dst (N:=3) rfl ?_);refine box_event ?hg (N:=3) ?hd (cs:=#[.slice none 0 0,.int .i64 0,.int .i64 0]) (t:=31) ?hr ?_;(case hd=>rfl);(case hg=>rfl);(case hr=>first|(go_simp;done)|(go_simp;rfl));intro gb678 hg w8 hbox hb;have n0_:=Aside0.mk (Kd.R_below (by (with_reducible repeat (first|apply yH|apply yI|apply yJ));exact HO675.out) hb);have n1_:=Aside0.mk (yP (by repeat (first|(with_reducible first|exact HB.out|apply yA|apply yB|apply yC)|exact HB.out)) hb);have n2_:=Aside0.mk (hbox);have n3_:=Aside0.mk ((by rw [hg];exact (yQ (by repeat (first|(with_reducible first|exact HB.out|apply yA|apply yB|apply yC)|exact HB.out))):w.heap.size≤gb678));have n4_:=Aside0.mk ((by rw [hg];exact (yQ (by repeat (first|(with_reducible first|exact HB.out|apply yA|apply yB|apply yC)|exact HB.out))):w.heap.size≤gb678));clear HO675;clear HB;have HO675:=n0_;have HB:=n1_;have BK678:=n2_;have GW678:=n3_;have GE678:=n4_;clear n0_ n1_ n2_ n3_ n4_;clear hb hbox hg;obtain ⟨Ao9,co9,eo9⟩:=Kd.R_slice HO675.out;subst eo9;have hcz10_0:w8.cell? ⟨gb678,0,none⟩=some (.slice none 0 0):=(blk_cell BK678.out 0).trans rfl;have hcz10_1:w8.cell? ⟨gb678,1,none⟩=some (.int .i64 0):=(blk_cell BK678.out 1).trans rfl;have hcz10_2:w8.cell? ⟨gb678,2,none⟩=some (.int .i64 0):=(blk_cell BK678.out 2).trans rfl;have hfz10_0:=blk_frozen BK678.out 0;have hfz10_1:=blk_frozen BK678.out 1;have hfz10_2:=blk_frozen BK678.out 2)|((with_reducible refine gate_callee (f:=18) rfl ?_);refine goesL_ (some 17) rfl rfl Try.func18 (by kernel_rfl) rfl #[.agg #[.slice Ao9 t673.length co9,.int .i64 t676,.int .i64 t677]] rfl (by (try simp only [List.map_toArray,List.map_cons,List.map_nil]);first|done|rfl|(simp only [List.length_drop,List.length_take];rfl)) ?_;(with_reducible refine (impl_MachSet.calls _ _ t673 t676 t677 t679 t680 _ ?side1 ?side2 A4.out).mono ?_);(case side1=>refine (Kd.R_reads' (e:=3) (base:=w.heap.size) (ok:=fun k_=>True) (n:=t673.length) (c:=co9) ?_).2.2;exact (by (with_reducible repeat (first|apply yH|apply yI|apply yJ));exact (Kd.R_mono (Kd.R_far (p:=⟨gb678,2,none⟩) (Kd.R_far (p:=⟨gb678,1,none⟩) (Kd.R_far (p:=⟨gb678,0,none⟩) (Kd.R_types HO675.out BK678.out (by decide)) (fun _ hk=>hk.2) (.slice Ao9 t673.length co9)) (fun _ hk=>hk.2) (.int .i64 t676)) (fun _ hk=>hk.2) (.int .i64 t677)) (fun _ h_=>h_.1))));(case side2=>exact (Kd.R_reads' HO675.out).2.1);rintro e w11 ⟨rfl,hb⟩;refine ⟨_,rfl,?_⟩;have n0_:=Aside0.mk (Kd.R_below (by (with_reducible repeat (first|apply yH|apply yI|apply yJ));exact (Kd.R_mono (Kd.R_far (p:=⟨gb678,2,none⟩) (Kd.R_far (p:=⟨gb678,1,none⟩) (Kd.R_far (p:=⟨gb678,0,none⟩) (Kd.R_types HO675.out BK678.out (by decide)) (fun _ hk=>hk.2) (.slice Ao9 t673.length co9)) (fun _ hk=>hk.2) (.int .i64 t676)) (fun _ hk=>hk.2) (.int .i64 t677)) (fun _ h_=>h_.1))) hb);have n1_:=Aside0.mk (blk_below (g:=gb678) (o:=.cells #[.slice Ao9 t673.length co9,.int .i64 t676,.int .i64 t677] 31 (0,0)) (by (with_reducible repeat (first|refine yE ?_ _|refine yF ?_|refine yG ?_ _));refine blk_put (cs:=#[.slice Ao9 t673.length co9,.int .i64 t676,.int .i64 0]) ?_ 2 _ rfl;(with_reducible repeat (first|refine yE ?_ _|refine yF ?_|refine yG ?_ _));refine blk_put (cs:=#[.slice Ao9 t673.length co9,.int .i64 0,.int .i64 0]) ?_ 1 _ rfl;(with_reducible repeat (first|refine yE ?_ _|refine yF ?_|refine yG ?_ _));refine blk_put (cs:=#[.slice none 0 0,.int .i64 0,.int .i64 0]) ?_ 0 _ rfl;(with_reducible repeat (first|refine yE ?_ _|refine yF ?_|refine yG ?_ _));exact BK678.out) hb);have n2_:=Aside0.mk (yP (by repeat (first|(with_reducible first|exact HB.out|apply yA|apply yB|apply yC|refine yD ?_ GE678.out)|exact HB.out)) hb);clear HO675;clear BK678;clear HB;have HO675:=n0_;have BK678:=n1_;have HB:=n2_;clear n0_ n1_ n2_;(try clear hb);(try clear hb2);(try clear hk);(try clear hi);have hcz12_0:w11.cell? ⟨gb678,0,none⟩=some (.slice Ao9 t673.length co9):=(blk_cell BK678.out 0).trans rfl;have hcz12_1:w11.cell? ⟨gb678,1,none⟩=some (.int .i64 t676):=(blk_cell BK678.out 1).trans rfl;have hcz12_2:w11.cell? ⟨gb678,2,none⟩=some (.int .i64 t677):=(blk_cell BK678.out 2).trans rfl;have hfz12_0:=blk_frozen BK678.out 0;have hfz12_1:=blk_frozen BK678.out 1;have hfz12_2:=blk_frozen BK678.out 2)|((with_reducible refine gate_callee (f:=26) rfl ?_);refine goesL_ (some 22) rfl rfl Try.func26 (by kernel_rfl) rfl #[.agg #[.slice Ao9 t673.length co9,.int .i64 t676,.int .i64 t677]] rfl (by (try simp only [List.map_toArray,List.map_cons,List.map_nil]);first|done|rfl|(simp only [List.length_drop,List.length_take];rfl)) ?_;(with_reducible refine (spec_MachSet.calls k _ _ t673 t676 t677 t681 t682 _ ?side1 ?side2 A5.out).mono ?_);(case side1=>repeat (first|exact (Kd.R_reads' HO675.out).2.2|(with_reducible refine Kd.C_alloc ?_ _)|(with_reducible refine Kd.C_drewN ?_ _)|(with_reducible refine Kd.C_drew ?_)));(case side2=>exact (Kd.R_reads' HO675.out).2.1);rintro e w13 ⟨rfl,hb⟩;refine ⟨_,rfl,?_⟩;have n0_:=Aside0.mk (Kd.R_below (by (with_reducible repeat (first|apply yH|apply yI|apply yJ));exact HO675.out) hb);have n1_:=Aside0.mk (blk_below (g:=gb678) (o:=.cells #[.slice Ao9 t673.length co9,.int .i64 t676,.int .i64 t677] 31 (0,0)) (by (with_reducible repeat (first|refine yE ?_ _|refine yF ?_|refine yG ?_ _));exact BK678.out) hb);have n2_:=Aside0.mk (yP (by repeat (first|(with_reducible first|exact HB.out|apply yA|apply yB|apply yC|refine yD ?_ GE678.out)|exact HB.out)) hb);clear HO675;clear BK678;clear HB;have HO675:=n0_;have BK678:=n1_;have HB:=n2_;clear n0_ n1_ n2_;(try clear hb);(try clear hb2);(try clear hk);(try clear hi)))
  (try simp only [Act.put,yK,yL,yM])
  go_cut [8] (fun v8 wc=>∃ (kq:Nat) (x8_5:Bool),v8=.bool x8_5∧Aside0 (laws_FnMachSet.j0 kq t679 t680 x8_5 t673 t676 t677=some r)∧Aside0 (kq≤k)∧Aside0 (Kd.R (Kd.int .i64) 3 wc w.heap.size (fun _=>True) (.slice Ao9 t673.length co9) t673)∧Aside0 (wc.heap[gb678]?=some (.cells #[(.slice Ao9 t673.length co9),.int .i64 t676,.int .i64 t677] 31 (0,0)))∧Aside0 (Below w.heap.size w wc))
  case first =>
   have H:=HC6.out
   clear HC6
   by_cases c14:t679.toList=t681.toList
   ·rw [if_pos c14] at H
    have c14b0:(t679.toList == t681.toList)=true:=beq_iff_eq.mpr c14
    have c14b1:(t679.toList != t681.toList)=false:=bne_eq_false_iff_eq.mpr c14
    clear c14
    (first|rw [c14b0]|(simp only [i64_w,i32_w];rw [c14b0])|skip)
    have H':=Aside0.mk H
    clear H
    go_wp2
    go_meet
    case rel=>exact ⟨_,((t680 == t682)),(by first|rfl|(simp;done)|(simp [*];done)|(simp [Int.tmod_eq_emod_of_nonneg];done)),H',⟨by first|omega|exact Nat.le_refl _⟩,⟨by (with_reducible repeat (first|apply yH|apply yI|apply yJ));exact HO675.out⟩,⟨by (with_reducible repeat (first|refine yE ?_ _|refine yF ?_|refine yG ?_ _));exact BK678.out⟩,⟨by repeat (first|(with_reducible first|exact HB.out|apply yA|apply yB|apply yC|refine yD ?_ GE678.out)|exact HB.out)⟩⟩
   ·rw [if_neg c14] at H
    have c14b0:(t679.toList == t681.toList)=false:=beq_eq_false_iff_ne.mpr c14
    have c14b1:(t679.toList != t681.toList)=true:=bne_iff_ne.mpr c14
    (first|rw [c14b0]|(simp only [i64_w,i32_w];rw [c14b0])|skip)
    have H':=Aside0.mk H
    clear H
    go_wp2
    go_meet
    case rel=>exact ⟨_,(false),(by first|rfl|(simp;done)|(simp [*];done)|(simp [Int.tmod_eq_emod_of_nonneg];done)),H',⟨by first|omega|exact Nat.le_refl _⟩,⟨by (with_reducible repeat (first|apply yH|apply yI|apply yJ));exact HO675.out⟩,⟨by (with_reducible repeat (first|refine yE ?_ _|refine yF ?_|refine yG ?_ _));exact BK678.out⟩,⟨by repeat (first|(with_reducible first|exact HB.out|apply yA|apply yB|apply yC|refine yD ?_ GE678.out)|exact HB.out)⟩⟩
  case rest =>
   clear HC6
   try clear c1
   try clear c2
   try clear c2b0
   try clear c2b1
   try clear p2
   try clear c7
   try clear c14
   try clear c14b0
   try clear c14b1
   try clear hcz10_0
   try clear hcz10_1
   try clear hcz10_2
   try clear hcz12_0
   try clear hcz12_1
   try clear hcz12_2
   try clear hfz10_0
   try clear hfz10_1
   try clear hfz10_2
   try clear hfz12_0
   try clear hfz12_1
   try clear hfz12_2
   obtain ⟨kq,x8_5,rfl,HA,HJ5,HO_679000,BK678,HB⟩:=hcut
   cases kq with
   | zero=>exact absurd HA.out (by simp [laws_FnMachSet.j0])
   | succ kj5 =>
    have H:=HA.out
    clear HA
    simp only [laws_FnMachSet.j0] at H
    have HC15:=Aside0.mk H
    clear H
    go_upto_region 7 with (fail)
    go_cut [38] (fun v38 wc=>∃ (kq:Nat) (x38_14:Bool),v38=.bool x38_14∧Aside0 (laws_FnMachSet.j1 kq t679 x8_5 x38_14 t673 t676 t677=some r)∧Aside0 (kq≤kj5)∧Aside0 (Kd.R (Kd.int .i64) 3 wc w.heap.size (fun _=>True) (.slice Ao9 t673.length co9) t673)∧Aside0 (wc.heap[gb678]?=some (.cells #[(.slice Ao9 t673.length co9),.int .i64 t676,.int .i64 t677] 31 (0,0)))∧Aside0 (Below w.heap.size w wc))
    case first =>
     have H:=HC15.out
     clear HC15
     by_cases c16:x8_5=true
     ·subst c16
      have H1:(laws_FnMachSet.j1 kj5 t679 true (!t680) t673 t676 t677)=some r:=by rw [if_pos rfl] at H;exact H
      clear H
      have H:=H1
      clear H1
      have H':=Aside0.mk H
      clear H
      go_wp2
      go_meet
      case rel=>exact ⟨_,(!t680),(by first|rfl|(simp;done)|(simp [*];done)|(simp [Int.tmod_eq_emod_of_nonneg];done)),H',⟨by have:=HJ5.out;first|omega|exact Nat.le_refl _⟩,⟨by (with_reducible repeat (first|apply yH|apply yI|apply yJ));exact HO_679000.out⟩,⟨by (with_reducible repeat (first|refine yE ?_ _|refine yF ?_|refine yG ?_ _));exact BK678.out⟩,⟨by repeat (first|(with_reducible first|exact HB.out|apply yA|apply yB|apply yC|refine yD ?_ GE678.out)|exact HB.out)⟩⟩
     ·replace c16:=Bool.eq_false_iff.mpr c16
      subst c16
      have H1:(laws_FnMachSet.j1 kj5 t679 false true t673 t676 t677)=some r:=by rw [if_neg (show ¬ (false=true) by decide)] at H;exact H
      clear H
      have H:=H1
      clear H1
      have H':=Aside0.mk H
      clear H
      go_wp2
      go_meet
      case rel=>exact ⟨_,(true),(by first|rfl|(simp;done)|(simp [*];done)|(simp [Int.tmod_eq_emod_of_nonneg];done)),H',⟨by have:=HJ5.out;first|omega|exact Nat.le_refl _⟩,⟨by (with_reducible repeat (first|apply yH|apply yI|apply yJ));exact HO_679000.out⟩,⟨by (with_reducible repeat (first|refine yE ?_ _|refine yF ?_|refine yG ?_ _));exact BK678.out⟩,⟨by repeat (first|(with_reducible first|exact HB.out|apply yA|apply yB|apply yC|refine yD ?_ GE678.out)|exact HB.out)⟩⟩
    case rest =>
     clear HC15
     try clear c1
     try clear c2
     try clear c2b0
     try clear c2b1
     try clear p2
     try clear c7
     try clear c14
     try clear c14b0
     try clear c14b1
     try clear c16
     try clear hcz10_0
     try clear hcz10_1
     try clear hcz10_2
     try clear hcz12_0
     try clear hcz12_1
     try clear hcz12_2
     try clear hfz10_0
     try clear hfz10_1
     try clear hfz10_2
     try clear hfz12_0
     try clear hfz12_1
     try clear hfz12_2
     try clear p2
     obtain ⟨kq,x38_14,rfl,HA,HJ14,HO_679000,BK678,HB⟩:=hcut
     cases kq with
     | zero=>exact absurd HA.out (by simp [laws_FnMachSet.j1])
     | succ kj14 =>
      have H:=HA.out
      clear HA
      simp only [laws_FnMachSet.j1] at H
      by_cases c17:x38_14=true
      ·subst c17
       have H1:(some x8_5)=some r:=by rw [if_pos rfl] at H;exact H
       clear H
       have H:=H1
       clear H1
       obtain rfl:=Option.some.inj H
       go_wp2
       go_ret
       exact ⟨by first|rfl|(simp [errW_none,errW_some]<;>rfl)|(simp [*,errW_none,errW_some]<;>rfl)|(simp [errW_none,errW_some];exact ⟨rfl,rfl⟩),by repeat (first|(with_reducible first|exact HB.out|apply yA|apply yB|apply yC|refine yD ?_ GE678.out)|exact HB.out)⟩
      ·replace c17:=Bool.eq_false_iff.mpr c17
       subst c17
       have H1:(laws_FnMachSet.l0 kj14 t679 0 t673 t676 t677)=some r:=by rw [if_neg (show ¬ (false=true) by decide)] at H;exact H
       clear H
       have H:=H1
       clear H1
       have H':=Aside0.mk H
       clear H
       go_wp2
       go_loopg [9] kj14 (fun kq v9 w'=>∃ (x9_3:Int),v9=.int .i64 x9_3∧Aside0 (laws_FnMachSet.l0 kq t679 x9_3 t673 t676 t677=some r)∧Aside0 (kq≤kj14)∧Aside0 (Kd.R (Kd.int .i64) 3 w' w.heap.size (fun _=>True) (.slice Ao9 t673.length co9) t673)∧Aside0 (w'.heap[gb678]?=some (.cells #[(.slice Ao9 t673.length co9),.int .i64 t676,.int .i64 t677] 31 (0,0)))∧Aside0 (Below w.heap.size w w'))
       case atStart=>exact ⟨(0),(by first|rfl|(simp;done)|(simp [*];done)|(simp [Int.tmod_eq_emod_of_nonneg];done)),H',⟨Nat.le_refl _⟩,⟨by (with_reducible repeat (first|apply yH|apply yI|apply yJ));exact HO_679000.out⟩,⟨by (with_reducible repeat (first|refine yE ?_ _|refine yF ?_|refine yG ?_ _));exact BK678.out⟩,⟨by repeat (first|(with_reducible first|exact HB.out|apply yA|apply yB|apply yC|refine yD ?_ GE678.out)|exact HB.out)⟩⟩
       case round =>
        clear H'
        try clear c1
        try clear c2
        try clear c2b0
        try clear c2b1
        try clear p2
        try clear c7
        try clear c14
        try clear c14b0
        try clear c14b1
        try clear c16
        try clear c17
        try clear hcz10_0
        try clear hcz10_1
        try clear hcz10_2
        try clear hcz12_0
        try clear hcz12_1
        try clear hcz12_2
        try clear hfz10_0
        try clear hfz10_1
        try clear hfz10_2
        try clear hfz12_0
        try clear hfz12_1
        try clear hfz12_2
        try clear p2
        obtain ⟨x9_3,rfl,HA,HK3,HO_679000,BK678,HB⟩:=hrel
        cases gk with
        | zero=>exact absurd HA.out (by simp [laws_FnMachSet.l0])
        | succ k3 =>
         have H:=HA.out
         clear HA
         simp only [laws_FnMachSet.l0] at H
         by_cases c18:x9_3≤150
         ·rw [if_pos c18] at H
          have c18b0:decide (x9_3≤150)=true:=decide_eq_true c18
          clear c18
          replace H:=Option.bind_eq_some_iff.mp H
          obtain ⟨t683,A190,H⟩:=H
          replace H:((impl_MachTakes.f k3 t673 t676 t677 x9_3).bind fun t684=>(if (t683 != t684)=true then (some false) else (laws_FnMachSet.l0 k3 t679 (wrap64 (x9_3+1)) t673 t676 t677)))=some r:=H
          have A19:=Aside0.mk A190
          clear A190
          replace H:=Option.bind_eq_some_iff.mp H
          obtain ⟨t684,A200,H⟩:=H
          replace H:(if (t683 != t684)=true then (some false) else (laws_FnMachSet.l0 k3 t679 (wrap64 (x9_3+1)) t673 t676 t677))=some r:=H
          have A20:=Aside0.mk A200
          clear A200
          by_cases c21:(t683 != t684)=true
          ·rw [if_pos c21] at H
           have c21b0:(t683 != t684)=true:=c21
           (try (have c21b1:decide (t683=t684)=false:=by simpa using c21))
           (try (have c21b2:(t683 == t684)=false:=by simpa using c21))
           (try (have c21b3:¬ (t683=t684):=by simpa using c21))
           clear c21
           obtain rfl:=Option.some.inj H
           try go_wp2
           have n0_:=Aside0.mk (yJ HO_679000.out)
           have n1_:=Aside0.mk (yF BK678.out)
           have n2_:=Aside0.mk (yC HB.out)
           clear HO_679000
           clear BK678
           clear HB
           have HO_679000:=n0_
           have BK678:=n1_
           have HB:=n2_
           clear n0_ n1_ n2_
           refine start_ (n:=7) (S:=fun w'=>w'.cell? ⟨gb678,0,none⟩=some (.slice Ao9 t673.length co9)∧w'.cell? ⟨gb678,1,none⟩=some (.int .i64 t676)∧w'.cell? ⟨gb678,2,none⟩=some (.int .i64 t677)) (ds:=[]) #[false,false,false,false,false,false,false] (by kernel_rfl) rfl rfl ⟨(blk_cell BK678.out 0).trans rfl,(blk_cell BK678.out 1).trans rfl,(blk_cell BK678.out 2).trans rfl⟩ (fun hHeld=>?_)
           generalize wr.drew=w22 at HO_679000 BK678 HB hHeld ⊢
           refine pure_ (i:=0) (N:=some 44) (v:=?_) (a':=?_) #[true,false,false,false,false,false,false] rfl rfl (by kernel_rfl) (fun _ _ _ h=>h) (Or.inl ⟨by rfl,?_⟩) ?_ ?_
           rotate_left
           ·intro w'
            go_simp
            with_reducible rfl
           rotate_left
           ·simp only [Act.put,yK,yL,yM,i64_w,i32_w]
            rfl
           refine pure_ (i:=1) (N:=some 45) (v:=?_) (a':=?_) #[true,true,false,false,false,false,false] rfl rfl (by kernel_rfl) (fun _ _ _ h=>h) (Or.inl ⟨by rfl,?_⟩) ?_ ?_
           rotate_left
           ·intro w'
            go_simp
            with_reducible rfl
           rotate_left
           ·simp only [Act.put,yK,yL,yM,i64_w,i32_w]
            rfl
           refine pure_ (i:=4) (N:=some 48) (v:=?_) (a':=?_) #[true,true,false,false,true,false,false] rfl rfl (by kernel_rfl) (fun _ _ _ h=>h) (Or.inl ⟨by rfl,?_⟩) ?_ ?_
           rotate_left
           ·intro w'
            go_simp
            with_reducible rfl
           rotate_left
           ·simp only [Act.put,yK,yL,yM,i64_w,i32_w]
            rfl
           refine take_ (i:=3) (N:=some 47) (v:=?_) (a':=?_) #[true,true,false,true,true,false,false] rfl rfl (by kernel_rfl) (fun _ _ _ h=>h) (Or.inl ⟨by rfl,?_⟩) hHeld ?_ ?_
           rotate_left
           ·rintro w' ⟨s0,s1,s2⟩
            go_simp
            with_reducible rfl
           rotate_left
           ·simp only [Act.put,yK,yL,yM,i64_w,i32_w]
            rfl
           refine one_ (i:=2) (N:=some 46) #[true,true,true,true,true,false,false] rfl rfl (by kernel_rfl) (by decide) (fun K hK=>?_)
           refine goes_ Try.func11 (by kernel_rfl) rfl #[.string t679,.int .i64 x9_3] (by rfl) rfl rfl (by (try simp only [List.map_toArray,List.map_cons,List.map_nil]);first|done|rfl|(simp only [List.length_drop,List.length_take];rfl)) ?_
           with_reducible refine (impl_SetHas.calls k3 t679 x9_3 t683 _ A19.out).mono ?_
           rintro e w23 ⟨rfl,hb⟩
           refine ⟨_,rfl,?_⟩
           have n0_:=Aside0.mk (Kd.R_below (by (with_reducible repeat (first|apply yH|apply yI|apply yJ));exact HO_679000.out) hb)
           have n1_:=Aside0.mk (blk_below (g:=gb678) (o:=.cells #[.slice Ao9 t673.length co9,.int .i64 t676,.int .i64 t677] 31 (0,0)) (by (with_reducible repeat (first|refine yE ?_ _|refine yF ?_|refine yG ?_ _));exact BK678.out) hb)
           have n2_:=Aside0.mk (yP (by repeat (first|(with_reducible first|exact HB.out|apply yA|apply yB|apply yC|refine yD ?_ GE678.out)|exact HB.out)) hb)
           clear HO_679000
           clear BK678
           clear HB
           have HO_679000:=n0_
           have BK678:=n1_
           have HB:=n2_
           clear n0_ n1_ n2_
           (try clear hb)
           (try clear hb2)
           (try clear hk)
           (try clear hi)
           refine hK.out _ _ ⟨(blk_cell BK678.out 0).trans rfl,(blk_cell BK678.out 1).trans rfl,(blk_cell BK678.out 2).trans rfl⟩ (fun hHeld=>?_)
           clear hK K
           refine norm_ (a':=?_) ?_ ?_
           rotate_left
           ·show Act.put _ (some 46) _=_
            simp only [Act.put,yK,yL,yM,i64_w,i32_w]
            rfl
           refine one_ (i:=5) (N:=some 49) #[true,true,true,true,true,true,false] rfl rfl (by kernel_rfl) (by decide) (fun K hK=>?_)
           refine goes_ Try.func27 (by kernel_rfl) rfl #[.agg #[.slice Ao9 t673.length co9,.int .i64 t676,.int .i64 t677],.int .i64 x9_3] (by rfl) rfl rfl (by (try simp only [List.map_toArray,List.map_cons,List.map_nil]);first|done|rfl|(simp only [List.length_drop,List.length_take];rfl)) ?_
           with_reducible refine (impl_MachTakes.calls k3 _ _ t673 t676 t677 x9_3 t684 _ ?side1 ?side2 A20.out).mono ?_
           (case side1=>repeat (first|exact (Kd.R_reads' HO_679000.out).2.2|(with_reducible refine Kd.C_alloc ?_ _)|(with_reducible refine Kd.C_drewN ?_ _)|(with_reducible refine Kd.C_drew ?_)))
           (case side2=>exact (Kd.R_reads' HO_679000.out).2.1)
           rintro e w24 ⟨rfl,hb⟩
           refine ⟨_,rfl,?_⟩
           have n0_:=Aside0.mk (Kd.R_below (by (with_reducible repeat (first|apply yH|apply yI|apply yJ));exact HO_679000.out) hb)
           have n1_:=Aside0.mk (blk_below (g:=gb678) (o:=.cells #[.slice Ao9 t673.length co9,.int .i64 t676,.int .i64 t677] 31 (0,0)) (by (with_reducible repeat (first|refine yE ?_ _|refine yF ?_|refine yG ?_ _));exact BK678.out) hb)
           have n2_:=Aside0.mk (yP (by repeat (first|(with_reducible first|exact HB.out|apply yA|apply yB|apply yC|refine yD ?_ GE678.out)|exact HB.out)) hb)
           clear HO_679000
           clear BK678
           clear HB
           have HO_679000:=n0_
           have BK678:=n1_
           have HB:=n2_
           clear n0_ n1_ n2_
           (try clear hb)
           (try clear hb2)
           (try clear hk)
           (try clear hi)
           refine hK.out _ _ ⟨(blk_cell BK678.out 0).trans rfl,(blk_cell BK678.out 1).trans rfl,(blk_cell BK678.out 2).trans rfl⟩ (fun hHeld=>?_)
           clear hK K
           refine norm_ (a':=?_) ?_ ?_
           rotate_left
           ·show Act.put _ (some 49) _=_
            simp only [Act.put,yK,yL,yM,i64_w,i32_w]
            rfl
           refine pure_ (i:=6) (N:=some 50) (v:=?_) (a':=?_) #[true,true,true,true,true,true,true] rfl rfl (by kernel_rfl) (fun _ _ _ h=>h) (Or.inl ⟨by rfl,?_⟩) ?_ ?_
           rotate_left
           ·intro w'
            go_simp
            with_reducible rfl
           rotate_left
           ·simp only [Act.put,yK,yL,yM,i64_w,i32_w]
            rfl
           refine done_ (by kernel_rfl) ?_
           try go_wp2
           go_ret
           exact ⟨by first|rfl|(simp [errW_none,errW_some]<;>rfl)|(simp [*,errW_none,errW_some]<;>rfl)|(simp [errW_none,errW_some];exact ⟨rfl,rfl⟩),by repeat (first|(with_reducible first|exact HB.out|apply yA|apply yB|apply yC|refine yD ?_ GE678.out)|exact HB.out)⟩
          ·rw [if_neg c21] at H
           have c21b0:(t683 != t684)=false:=by simpa using c21
           (try (have c21b1:decide (t683=t684)=true:=by simpa using c21))
           (try (have c21b2:(t683 == t684)=true:=by simpa using c21))
           clear c21
           have H':=Aside0.mk H
           clear H
           try go_wp2
           have n0_:=Aside0.mk (yJ HO_679000.out)
           have n1_:=Aside0.mk (yF BK678.out)
           have n2_:=Aside0.mk (yC HB.out)
           clear HO_679000
           clear BK678
           clear HB
           have HO_679000:=n0_
           have BK678:=n1_
           have HB:=n2_
           clear n0_ n1_ n2_
           refine start_ (n:=7) (S:=fun w'=>w'.cell? ⟨gb678,0,none⟩=some (.slice Ao9 t673.length co9)∧w'.cell? ⟨gb678,1,none⟩=some (.int .i64 t676)∧w'.cell? ⟨gb678,2,none⟩=some (.int .i64 t677)) (ds:=[]) #[false,false,false,false,false,false,false] (by kernel_rfl) rfl rfl ⟨(blk_cell BK678.out 0).trans rfl,(blk_cell BK678.out 1).trans rfl,(blk_cell BK678.out 2).trans rfl⟩ (fun hHeld=>?_)
           generalize wr.drew=w25 at HO_679000 BK678 HB hHeld ⊢
           refine pure_ (i:=0) (N:=some 44) (v:=?_) (a':=?_) #[true,false,false,false,false,false,false] rfl rfl (by kernel_rfl) (fun _ _ _ h=>h) (Or.inl ⟨by rfl,?_⟩) ?_ ?_
           rotate_left
           ·intro w'
            go_simp
            with_reducible rfl
           rotate_left
           ·simp only [Act.put,yK,yL,yM,i64_w,i32_w]
            rfl
           refine pure_ (i:=1) (N:=some 45) (v:=?_) (a':=?_) #[true,true,false,false,false,false,false] rfl rfl (by kernel_rfl) (fun _ _ _ h=>h) (Or.inl ⟨by rfl,?_⟩) ?_ ?_
           rotate_left
           ·intro w'
            go_simp
            with_reducible rfl
           rotate_left
           ·simp only [Act.put,yK,yL,yM,i64_w,i32_w]
            rfl
           refine pure_ (i:=4) (N:=some 48) (v:=?_) (a':=?_) #[true,true,false,false,true,false,false] rfl rfl (by kernel_rfl) (fun _ _ _ h=>h) (Or.inl ⟨by rfl,?_⟩) ?_ ?_
           rotate_left
           ·intro w'
            go_simp
            with_reducible rfl
           rotate_left
           ·simp only [Act.put,yK,yL,yM,i64_w,i32_w]
            rfl
           refine take_ (i:=3) (N:=some 47) (v:=?_) (a':=?_) #[true,true,false,true,true,false,false] rfl rfl (by kernel_rfl) (fun _ _ _ h=>h) (Or.inl ⟨by rfl,?_⟩) hHeld ?_ ?_
           rotate_left
           ·rintro w' ⟨s0,s1,s2⟩
            go_simp
            with_reducible rfl
           rotate_left
           ·simp only [Act.put,yK,yL,yM,i64_w,i32_w]
            rfl
           refine one_ (i:=2) (N:=some 46) #[true,true,true,true,true,false,false] rfl rfl (by kernel_rfl) (by decide) (fun K hK=>?_)
           refine goes_ Try.func11 (by kernel_rfl) rfl #[.string t679,.int .i64 x9_3] (by rfl) rfl rfl (by (try simp only [List.map_toArray,List.map_cons,List.map_nil]);first|done|rfl|(simp only [List.length_drop,List.length_take];rfl)) ?_
           with_reducible refine (impl_SetHas.calls k3 t679 x9_3 t683 _ A19.out).mono ?_
           rintro e w26 ⟨rfl,hb⟩
           refine ⟨_,rfl,?_⟩
           have n0_:=Aside0.mk (Kd.R_below (by (with_reducible repeat (first|apply yH|apply yI|apply yJ));exact HO_679000.out) hb)
           have n1_:=Aside0.mk (blk_below (g:=gb678) (o:=.cells #[.slice Ao9 t673.length co9,.int .i64 t676,.int .i64 t677] 31 (0,0)) (by (with_reducible repeat (first|refine yE ?_ _|refine yF ?_|refine yG ?_ _));exact BK678.out) hb)
           have n2_:=Aside0.mk (yP (by repeat (first|(with_reducible first|exact HB.out|apply yA|apply yB|apply yC|refine yD ?_ GE678.out)|exact HB.out)) hb)
           clear HO_679000
           clear BK678
           clear HB
           have HO_679000:=n0_
           have BK678:=n1_
           have HB:=n2_
           clear n0_ n1_ n2_
           (try clear hb)
           (try clear hb2)
           (try clear hk)
           (try clear hi)
           refine hK.out _ _ ⟨(blk_cell BK678.out 0).trans rfl,(blk_cell BK678.out 1).trans rfl,(blk_cell BK678.out 2).trans rfl⟩ (fun hHeld=>?_)
           clear hK K
           refine norm_ (a':=?_) ?_ ?_
           rotate_left
           ·show Act.put _ (some 46) _=_
            simp only [Act.put,yK,yL,yM,i64_w,i32_w]
            rfl
           refine one_ (i:=5) (N:=some 49) #[true,true,true,true,true,true,false] rfl rfl (by kernel_rfl) (by decide) (fun K hK=>?_)
           refine goes_ Try.func27 (by kernel_rfl) rfl #[.agg #[.slice Ao9 t673.length co9,.int .i64 t676,.int .i64 t677],.int .i64 x9_3] (by rfl) rfl rfl (by (try simp only [List.map_toArray,List.map_cons,List.map_nil]);first|done|rfl|(simp only [List.length_drop,List.length_take];rfl)) ?_
           with_reducible refine (impl_MachTakes.calls k3 _ _ t673 t676 t677 x9_3 t684 _ ?side1 ?side2 A20.out).mono ?_
           (case side1=>repeat (first|exact (Kd.R_reads' HO_679000.out).2.2|(with_reducible refine Kd.C_alloc ?_ _)|(with_reducible refine Kd.C_drewN ?_ _)|(with_reducible refine Kd.C_drew ?_)))
           (case side2=>exact (Kd.R_reads' HO_679000.out).2.1)
           rintro e w27 ⟨rfl,hb⟩
           refine ⟨_,rfl,?_⟩
           have n0_:=Aside0.mk (Kd.R_below (by (with_reducible repeat (first|apply yH|apply yI|apply yJ));exact HO_679000.out) hb)
           have n1_:=Aside0.mk (blk_below (g:=gb678) (o:=.cells #[.slice Ao9 t673.length co9,.int .i64 t676,.int .i64 t677] 31 (0,0)) (by (with_reducible repeat (first|refine yE ?_ _|refine yF ?_|refine yG ?_ _));exact BK678.out) hb)
           have n2_:=Aside0.mk (yP (by repeat (first|(with_reducible first|exact HB.out|apply yA|apply yB|apply yC|refine yD ?_ GE678.out)|exact HB.out)) hb)
           clear HO_679000
           clear BK678
           clear HB
           have HO_679000:=n0_
           have BK678:=n1_
           have HB:=n2_
           clear n0_ n1_ n2_
           (try clear hb)
           (try clear hb2)
           (try clear hk)
           (try clear hi)
           refine hK.out _ _ ⟨(blk_cell BK678.out 0).trans rfl,(blk_cell BK678.out 1).trans rfl,(blk_cell BK678.out 2).trans rfl⟩ (fun hHeld=>?_)
           clear hK K
           refine norm_ (a':=?_) ?_ ?_
           rotate_left
           ·show Act.put _ (some 49) _=_
            simp only [Act.put,yK,yL,yM,i64_w,i32_w]
            rfl
           refine pure_ (i:=6) (N:=some 50) (v:=?_) (a':=?_) #[true,true,true,true,true,true,true] rfl rfl (by kernel_rfl) (fun _ _ _ h=>h) (Or.inl ⟨by rfl,?_⟩) ?_ ?_
           rotate_left
           ·intro w'
            go_simp
            with_reducible rfl
           rotate_left
           ·simp only [Act.put,yK,yL,yM,i64_w,i32_w]
            rfl
           refine done_ (by kernel_rfl) ?_
           try go_wp2
           go_roundg k3
           case measure=>have:=HJ5.out;have:=HJ14.out;have:=HK3.out;omega
           case rel=>exact ⟨(wrap64 (x9_3+1)),(by first|rfl|(simp;done)|(simp [*];done)|(simp [Int.tmod_eq_emod_of_nonneg];done)),H',⟨by have:=HJ5.out;have:=HJ14.out;have:=HK3.out;omega⟩,⟨by (with_reducible repeat (first|apply yH|apply yI|apply yJ));exact HO_679000.out⟩,⟨by (with_reducible repeat (first|refine yE ?_ _|refine yF ?_|refine yG ?_ _));exact BK678.out⟩,⟨by repeat (first|(with_reducible first|exact HB.out|apply yA|apply yB|apply yC|refine yD ?_ GE678.out)|exact HB.out)⟩⟩
         ·rw [if_neg c18] at H
          have c18b0:decide (x9_3≤150)=false:=decide_eq_false c18
          clear c18
          obtain rfl:=Option.some.inj H
          go_wp2
          go_ret
          exact ⟨by first|rfl|(simp [errW_none,errW_some]<;>rfl)|(simp [*,errW_none,errW_some]<;>rfl)|(simp [errW_none,errW_some];exact ⟨rfl,rfl⟩),by repeat (first|(with_reducible first|exact HB.out|apply yA|apply yB|apply yC|refine yD ?_ GE678.out)|exact HB.out)⟩

/-- THE ONE PURE STATEMENT of laws_FnMachSet: yours. -/
noncomputable def laws_FnMachSet.Pure:Prop:=∀ (l0:List Int),l0.length≤maxLen→l0.length * 1≤140737488351232→(∀ x ∈ l0,(Lit.int .u8 x).wf=true)→∃ k,laws_FnMachSet.f k l0=some true
theorem laws_FnMachSet.walk (P:laws_FnMachSet.Pure) (a0:Option Addr) (len0 cap0:Nat) (z0:List Int) (w:World) (w0:(a0=none∧len0=0∧cap0=0∧z0=[]) ∨ ∃ x,a0=some x∧len0≤cap0∧cap0≤maxLen∧z0.length=cap0∧(∀ i,i<z0.length→w.cell? (x.add i)=some (.int .u8 (z0.getD i 0)))∧∀ n ∈ z0,(Lit.int .u8 n).wf=true) (y0:len0 * 1≤140737488351232) :
  Calls Try.prog 7 #[.slice a0 len0 cap0] w fun e w'=>e=.returned (.bool true)∧Below w.heap.size w w':=by
 obtain ⟨l0,rfl,hr0,hm0,hw0,hc0⟩:=ReadsInt.ofRowC w0
 obtain ⟨k,h⟩:=P l0 hm0 y0 hw0
 refine (laws_FnMachSet.calls k _ _ l0 true w (Kd.C_of_reads (d:=(0:Int)) (h1:=fun _=>rfl) hr0) hc0 h).mono ?_
 rintro e w' ⟨rfl,hd⟩
 exact ⟨rfl,hd⟩

end Go.Proofs.Ytneadgionjlicaa.P

-- impl.MachAt and impl.MachTakes.
namespace Go.Proofs.Ytneadgionjlicaa.P
open Go.RowKit Go.Proofs.YtneadgionjlicaaW.PrintWords Go.Proofs.YtneadgionjlicaaW.PrintLast Go.Proofs.YtneadgionjlicaaW.PrintMore
set_option linter.unusedVariables false
set_option linter.unusedSimpArgs false

theorem machAt_l0 (l : List Int) (st en : Int) (hl : l.length ≤ 1000000) (n : Nat) (hn : n ≤ 1000000) : ∀ (d i : Nat), i ≤ n → n - i = d → Ev (fun k => impl_MachAt.l0 k (orb l st i) n i l st en) (orb l st n, true) := by
  intro d
  induction d with
  | zero =>
    intro i hi hd
    have e : i = n := by omega
    subst e
    refine Ev.step (f := fun k => some (orb l st i, true)) (fun k => ?_) (Ev.now _)
    simp only [impl_MachAt.l0]; rw [if_neg (by omega)]
  | succ d ih =>
    intro i hi hd
    obtain ⟨K1, h1⟩ := ih (i + 1) (by omega) (by omega)
    dsimp only at h1
    obtain ⟨K2, h2⟩ := next_f l hl st en (orb l st i)
    dsimp only at h2
    refine ⟨K1 + K2 + 1, fun k hk => ?_⟩
    obtain ⟨k, rfl⟩ : ∃ j, k = j + 1 := ⟨k - 1, by omega⟩
    simp only [impl_MachAt.l0]
    rw [if_pos (by omega), h2 k (by omega), Option.bind_some, wsucc (by omega)]
    exact h1 k (by omega)
theorem machTakes_f (l : List Int) (st en : Int) (hl : l.length ≤ 1000000) (hm : mok l st en = true) (n : Nat) (hn : n ≤ 1000000) : Ev (fun k => impl_MachTakes.f k l st en n) (mq l st en n) := by
  obtain ⟨K1, h1⟩ := machAt_l0 l st en hl n hn _ 0 (Nat.zero_le _) rfl
  have g1 : ∀ k, K1 ≤ k → impl_MachAt.l0 k st n 0 l st en = some (orb l st n, true) := h1
  refine ⟨K1 + 1, fun k hk => ?_⟩
  obtain ⟨k, rfl⟩ : ∃ j, k = j + 1 := ⟨k - 1, by omega⟩
  have h2 : impl_MachAt.f (k + 1) l st en n = some (orb l st n, true) := by
    unfold impl_MachAt.f
    rw [machIn_f (by omega), hm, Option.bind_some, if_pos rfl, in_f, decide_eq_true (by omega), Option.bind_some]
    simp only [impl_MachAt.j0]
    rw [if_neg (by decide)]
    exact g1 k (by omega)
  dsimp only
  unfold impl_MachTakes.f
  rw [h2, Option.bind_some, if_pos (by trivial)]; rfl
end Go.Proofs.Ytneadgionjlicaa.P

-- spec.l1Write writes the text of a tail and a ring.
namespace Go.Proofs.Ytneadgionjlicaa.P
open Go.RowKit Go.Proofs.YtneadgionjlicaaW.PrintWords Go.Proofs.YtneadgionjlicaaW.PrintLast Go.Proofs.YtneadgionjlicaaW.PrintMore
set_option linter.unusedVariables false
set_option linter.unusedSimpArgs false
theorem write_byte (b : Bool) : (spec_l1Bit.f b) = some (if b then 1 else 0) := by cases b <;> rfl
theorem bt_sgn (b : Bool) : bt (⟨#[48, 49]⟩ : ByteArray) (if b then 1 else 0) = sgnI b := by cases b <;> decide
theorem write_l1 (t r : List Bool) (hr : r.length ≤ 1000000) : ∀ (d i : Nat) (acc : List Int), i ≤ r.length → r.length - i = d → acc.length ≤ 4000000 + i →
    Ev (fun k => spec_l1Write.l1 k acc i t r) (strOfNums (acc ++ (r.drop i).map sgnI ++ [41])) := by
  intro d
  induction d with
  | zero =>
    intro i acc hi hd ha
    have : r.drop i = [] := by rw [List.drop_eq_nil_iff]; omega
    rw [this]
    refine Ev.step (f := fun k => some (strOfNums (acc ++ [41]))) (fun k => ?_) (by simpa using Ev.now _)
    simp only [spec_l1Write.l1]; rw [if_neg (by omega), if_pos (by omega)]
  | succ d ih =>
    intro i acc hi hd ha
    have hw : wrap64 ((i : Int) + 1) = ((i + 1 : Nat) : Int) := by rw [w64 (by omega) (by omega)]; omega
    refine Ev.step (f := fun k => spec_l1Write.l1 k (acc ++ [sgnI (r.getD i false)]) ((i + 1 : Nat) : Int) t r) (fun k => ?_) ?_
    · simp only [spec_l1Write.l1]
      rw [if_pos (by omega), if_pos (by omega), rdOf_nat, write_byte]
      simp only [Option.bind_some]
      rw [if_pos (by split <;> decide), if_pos (by split <;> decide), if_pos (by omega), bt_sgn, hw]
    · have := ih (i + 1) (acc ++ [sgnI (r.getD i false)]) (by omega) (by omega) (by simp; omega)
      rw [drop_getD (show i < r.length by omega)]
      simpa using this
theorem write_l0 (t r : List Bool) (ht : t.length ≤ 1000000) (hr : r.length ≤ 1000000) : ∀ (d i : Nat) (acc : List Int), i ≤ t.length → t.length - i = d → acc.length ≤ i →
    Ev (fun k => spec_l1Write.l0 k acc i t r) (strOfNums (acc ++ (t.drop i).map sgnI ++ [40] ++ r.map sgnI ++ [41])) := by
  intro d
  induction d with
  | zero =>
    intro i acc hi hd ha
    have : t.drop i = [] := by rw [List.drop_eq_nil_iff]; omega
    rw [this]
    have h := write_l1 t r hr r.length 0 (acc ++ [40]) (by omega) (by omega) (by simp; omega)
    refine Ev.step (f := fun k => spec_l1Write.l1 k (acc ++ [40]) 0 t r) (fun k => ?_) (by simpa using h)
    simp only [spec_l1Write.l0]; rw [if_neg (by omega), if_pos (by omega)]
  | succ d ih =>
    intro i acc hi hd ha
    have hw : wrap64 ((i : Int) + 1) = ((i + 1 : Nat) : Int) := by rw [w64 (by omega) (by omega)]; omega
    refine Ev.step (f := fun k => spec_l1Write.l0 k (acc ++ [sgnI (t.getD i false)]) ((i + 1 : Nat) : Int) t r) (fun k => ?_) ?_
    · simp only [spec_l1Write.l0]
      rw [if_pos (by omega), if_pos (by omega), rdOf_nat, write_byte]
      simp only [Option.bind_some]
      rw [if_pos (by split <;> decide), if_pos (by split <;> decide), if_pos (by omega), bt_sgn, hw]
    · have := ih (i + 1) (acc ++ [sgnI (t.getD i false)]) (by omega) (by omega) (by simp; omega)
      rw [drop_getD (show i < t.length by omega)]
      simpa using this
theorem write_f (t r : List Bool) (ht : t.length ≤ 1000000) (hr : r.length ≤ 1000000) : Ev (fun k => spec_l1Write.f k t r) (textOf t r) := by
  have := write_l0 t r ht hr t.length 0 [] (by omega) (by omega) (by simp)
  have e : strOfNums (t.map sgnI ++ [40] ++ r.map sgnI ++ [41]) = textOf t r := by
    simp only [strOfNums, textOf, List.map_append, List.map_map]
    have : (fun n : Int => UInt8.ofNat n.toNat) ∘ sgnI = sgn := by funext b; cases b <;> rfl
    rw [this]; rfl
  rw [← e]
  simpa [spec_l1Write.f] using this


end Go.Proofs.Ytneadgionjlicaa.P

-- For every code the law FnMachSet holds.
namespace Go.Proofs.Ytneadgionjlicaa.P
open Go.RowKit Go.Proofs.YtneadgionjlicaaW.PrintWords Go.Proofs.YtneadgionjlicaaW.PrintLast Go.Proofs.YtneadgionjlicaaW.PrintMore
set_option linter.unusedVariables false
set_option linter.unusedSimpArgs false

theorem drawMachSet_f (l : List Int) (h : ∀ x ∈ l, (Lit.int .u8 x).wf = true) : ∃ (s : List Int) (x y : Int), s.length ≤ 100 ∧ Ev (fun k => spec_DrawMachSet.f k l) (s, x, y) := by
  obtain ⟨r, h1, K0, h0⟩ := drawMach_f (code_of h) 0 (by omega)
  have g0 : ∀ k, K0 ≤ k → spec_l91Machine.f k (l.take 2000) 0 = some r := h0
  refine ⟨r.1, r.2.1, r.2.2.1, h1.1, K0, fun k hk => ?_⟩
  dsimp only
  unfold spec_DrawMachSet.f
  rw [open_f, Option.bind_some, g0 k (by omega), Option.bind_some]
theorem set_facts {l : List Int} {st en : Int} (h : mok l st en = true) : ∃ T F, Shape l st T F ∧ T ≤ 32 ∧ l.length ≤ 5 ∧ (∀ i, ∃ v : Nat, orb l st i = (v : Int) ∧ v < 2 ^ l.length) ∧ (cn (mq l st en)).1.length ≤ 32 ∧ (cn (mq l st en)).2.length ≤ 32 := by
  obtain ⟨T, F, h1, h2⟩ := mok_shape h
  obtain ⟨h3, h4, h5, _⟩ := mok_of h
  have hlt := h1.lt
  have hsp := cn_spec (by omega : 0 < T - F) (h1.per en)
  exact ⟨T, F, h1, h2, h3.2, orb_in (by omega) h4 h5, by omega, by omega⟩
theorem smachSet_f (l : List Int) (st en : Int) (hl : l.length ≤ 1000000) : Ev (fun k => spec_MachSet.f k l st en) (msr l st en) := by
  refine Ev.congr (fun k => rfl) (Ev.bind (l6MachIn_f l st en (by omega)) ?_)
  unfold msr
  cases hm : mok l st en with
  | false => exact Ev.now _
  | true =>
    obtain ⟨T, F, h1, h2, h3, h4, h5, h6⟩ := set_facts hm
    have hw := write_f (cn (mq l st en)).1 (cn (mq l st en)).2 (by omega) (by omega)
    have e : txt (cn (mq l st en)) = (textOf (cn (mq l st en)).1 (cn (mq l st en)).2, true) := txt_ok (by omega) (by omega)
    rw [e]
    exact Ev.bind (f := fun k (bt : List Bool × List Bool) => (spec_l1Write.f k bt.1 bt.2).bind fun t => some (t, true)) (l6mSet_f l st en h3 h1 h2 h4) (Ev.bind hw (Ev.now _))
theorem lawMachSet_l0 (l : List Int) (st en : Int) (hl : l.length ≤ 1000000) (hm : mok l st en = true) : ∀ (d i : Nat), i ≤ 151 → 151 - i = d → Ev (fun k => laws_FnMachSet.l0 k (txt (cn (mq l st en))).1 i l st en) true := by
  obtain ⟨T, F, h1, h2, h3, h4, h5, h6⟩ := set_facts hm
  have hlt := h1.lt
  have hx := txt_size (cn (mq l st en))
  have ht : (txt (cn (mq l st en))).2 = true := by rw [txt_ok (by omega) (by omega)]
  have hset := txt_setf (by omega : 0 < T - F) (h1.per en) ht
  intro d
  induction d with
  | zero =>
    intro i hi hd
    refine Ev.step (f := fun k => some true) (fun k => ?_) (Ev.now _)
    simp only [laws_FnMachSet.l0]; rw [if_neg (by omega)]
  | succ d ih =>
    intro i hi hd
    obtain ⟨K1, h7⟩ := ih (i + 1) (by omega) (by omega)
    dsimp only at h7
    obtain ⟨K2, h8⟩ := isetHas_f (txt (cn (mq l st en))).1 (by omega) i (by omega)
    dsimp only at h8
    rw [hset] at h8
    obtain ⟨K3, h9⟩ := machTakes_f l st en hl hm i (by omega)
    dsimp only at h9
    refine ⟨K1 + K2 + K3 + 1, fun k hk => ?_⟩
    obtain ⟨k, rfl, hk2⟩ := down1 hk
    simp only [laws_FnMachSet.l0]
    rw [if_pos (by omega), h8 k (by omega), Option.bind_some, h9 k (by omega), Option.bind_some, if_neg (bne_no _), wsucc (by omega)]
    exact h7 k (by omega)
theorem lawMachSet_ev (l : List Int) (h : ∀ x ∈ l, (Lit.int .u8 x).wf = true) : Ev (fun k => laws_FnMachSet.f k l) true := by
  by_cases hl : (l.length : Int) > 1048576
  · exact ⟨0, fun k _ => by dsimp only; unfold laws_FnMachSet.f; rw [if_pos hl]⟩
  · obtain ⟨s, st, en, hs, K1, h1⟩ := drawMachSet_f l h
    dsimp only at h1
    have h2 := machSet_f (show s.length ≤ 1000000000000 by omega) st en
    obtain ⟨K3, h3⟩ := smachSet_f s st en (by omega)
    dsimp only at h3
    have main : Ev (fun k => laws_FnMachSet.j0 k (msr s st en).1 (msr s st en).2 true s st en) true := by
      cases hm : mok s st en with
      | false =>
        have e : msr s st en = (⟨#[]⟩, false) := by unfold msr; rw [hm]; rfl
        rw [e]
        refine Ev.step (f := fun k => laws_FnMachSet.j1 k (⟨#[]⟩ : ByteArray) true true s st en) (fun k => ?_) (Ev.step (f := fun k => some true) (fun k => ?_) (Ev.now _))
        · simp only [laws_FnMachSet.j0]; rfl
        · simp only [laws_FnMachSet.j1]; rfl
      | true =>
        obtain ⟨T, F, _, _, _, _, h5, h6⟩ := set_facts hm
        have e : msr s st en = ((txt (cn (mq s st en))).1, true) := by
          unfold msr; rw [hm, if_pos rfl, show true = (txt (cn (mq s st en))).2 by rw [txt_ok (by omega) (by omega)]]
        rw [e]
        obtain ⟨K6, h6⟩ := lawMachSet_l0 s st en (by omega) hm _ 0 (Nat.zero_le _) rfl
        have g6 : ∀ k, K6 ≤ k → laws_FnMachSet.l0 k (txt (cn (mq s st en))).1 0 s st en = some true := h6
        refine Ev.step (f := fun k => laws_FnMachSet.j1 k (txt (cn (mq s st en))).1 true false s st en) (fun k => ?_) ⟨K6 + 1, fun k hk => ?_⟩
        · simp only [laws_FnMachSet.j0]; rfl
        · obtain ⟨k, rfl, hk2⟩ := down1 hk
          simp only [laws_FnMachSet.j1]
          rw [if_neg (by decide)]
          exact g6 k (by omega)
    obtain ⟨K4, h4⟩ := main
    dsimp only at h4
    refine ⟨K1 + K3 + K4, fun k hk => ?_⟩
    dsimp only
    unfold laws_FnMachSet.f
    rw [if_neg hl, h1 k (by omega), Option.bind_some, h2, Option.bind_some, h3 k (by omega), Option.bind_some, if_pos (by trivial), BEq.rfl]
    exact h4 k (by omega)
theorem lawMachSet_pure : laws_FnMachSet.Pure := fun l _ _ h => (lawMachSet_ev l h).rounds
end Go.Proofs.Ytneadgionjlicaa.P

-- For every code the law FnMachSet holds.
namespace Go.Proofs.Ytneadgionjlicaa.Pure
theorem FnMachSet : Go.Proofs.Ytneadgionjlicaa.P.laws_FnMachSet.Pure := Go.Proofs.Ytneadgionjlicaa.P.lawMachSet_pure
end Go.Proofs.Ytneadgionjlicaa.Pure
