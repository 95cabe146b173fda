/- What these laws reach, joined by a program of this session: contracts (written by that program over the kit's print, or by hand) and plain lemmas. -/
import Derived.Test.YtnmkinnfbbehnaaK1
open Go.Proofs.YtnmkinnfbbehnaaW.PrintWords renaming below_alloc → yA, pw_below_drewN → yB, below_drew1 → yC, below_set → yD, blk_drewN → yE, blk_drew → yF, blk_alloc → yG, below_step → yP, below_size → yQ
open Go.Proofs.YtnmkinnfbbehnaaW.PrintWords.Kd renaming R_alloc → yH, R_drewN → yI, R_drew → yJ
open List renaming setIfInBounds_toArray → yK, set_cons_zero → yL, set_cons_succ → yM
namespace Go.Proofs.Ytnmkinnfbbehnaa.P
open Go.RowKit Go.Proofs.YtnmkinnfbbehnaaW.PrintWords Go.Proofs.YtnmkinnfbbehnaaW.PrintLast Go.Proofs.YtnmkinnfbbehnaaW.PrintMore
attribute [local go_sem] max2_int min2_int max_two min_two max_three min_three max_four min_four   -- for this text's walks alone
set_option linter.unusedVariables false
set_option linter.unusedSimpArgs false

/-! ### spec_l1Less: function 23 -/
mutual
def spec_l1Less.l0:Nat→Int→Int→List Bool→List Bool→Option (List Bool × List Bool)
 | 0,_,_,_,_=>none
 | k+1,x3,x4,x261000,x261001=>if x4<x3 then (if x4=0 then (none) else (spec_l1Less.l1 k x3 x4 ((Int.tmod x3 x4) == 0) x4 x261000 x261001)) else (if (x261000.length:Int) > 0 then (if 0≤(wrap64 ((x261000.length:Int) - 1)) then (if (wrap64 ((x261000.length:Int) - 1))<(x261000.length:Int) then (if 0≤(wrap64 (x3 - 1)) then (if (wrap64 (x3 - 1))<(x261001.length:Int) then (if ((rdOf false x261000 (wrap64 ((x261000.length:Int) - 1))) == (rdOf false x261001 (wrap64 (x3 - 1))))=true then ((some (([rdOf false x261001 (wrap64 (x3 - 1))]:List Bool):List Bool)).bind fun y265=>(if (wrap64 (x3 - 1))≤(x261001.length:Int) then ((some (x261001.take ((wrap64 (x3 - 1)):Int).toNat:List Bool)).bind fun y268=>(if y265.length+y268.length<140737488355328 then (if (wrap64 ((x261000.length:Int) - 1))≤(x261000.length:Int) then ((spec_l1Less.f k (x261000.take ((wrap64 ((x261000.length:Int) - 1)):Int).toNat) (y265++y268)).bind fun bt281=>(some (bt281.1,bt281.2))) else (none)) else (none))) else (none))) else (some (x261000,x261001))) else (none)) else (none)) else (none)) else (none)) else (some (x261000,x261001)))
def spec_l1Less.l1:Nat→Int→Int→Bool→Int→List Bool→List Bool→Option (List Bool × List Bool)
 | 0,_,_,_,_,_,_=>none
 | k+1,x3,x4,x5,x6,x261000,x261001=>if x6<x3 then (if x5=true then (if 0≤x6 then (if x6<(x261001.length:Int) then (if 0≤(wrap64 (x6 - x4)) then (if (wrap64 (x6 - x4))<(x261001.length:Int) then (spec_l1Less.l1 k x3 x4 ((rdOf false x261001 x6) == (rdOf false x261001 (wrap64 (x6 - x4)))) (wrap64 (x6+1)) x261000 x261001) else (none)) else (none)) else (none)) else (none)) else (spec_l1Less.l0 k x3 (wrap64 (x4+1)) x261000 x261001)) else (if x5=true then (if 0≤x4 then (if x4≤(x261001.length:Int) then ((spec_l1Less.f k x261000 (x261001.take (x4:Int).toNat)).bind fun bt294=>(some (bt294.1,bt294.2))) else (none)) else (none)) else (spec_l1Less.l0 k x3 (wrap64 (x4+1)) x261000 x261001))
def spec_l1Less.f:Nat→List Bool→List Bool→Option (List Bool × List Bool)
 | 0,_,_=>none
 | k+1,l0_0,l0_1=>spec_l1Less.l0 k (l0_1.length:Int) 1 l0_0 l0_1
end
theorem spec_l1Less.mono_l:∀ k,(∀ y0 y1,LeO (spec_l1Less.f k y0 y1) (spec_l1Less.f (k+1) y0 y1))∧(∀ y0 y1 y2 y3,LeO (spec_l1Less.l0 k y0 y1 y2 y3) (spec_l1Less.l0 (k+1) y0 y1 y2 y3))∧(∀ y0 y1 y2 y3 y4 y5,LeO (spec_l1Less.l1 k y0 y1 y2 y3 y4 y5) (spec_l1Less.l1 (k+1) y0 y1 y2 y3 y4 y5))
 | 0=>⟨fun _ _ r h=>by simp [spec_l1Less.f] at h,fun _ _ _ _ r h=>by simp [spec_l1Less.l0] at h,fun _ _ _ _ _ _ r h=>by simp [spec_l1Less.l1] at h⟩
 | k+1=>by
  obtain ⟨ih0,ih1,ih2⟩:=spec_l1Less.mono_l k
  refine ⟨?_,?_,?_⟩
  ·intro y0 y1
   unfold spec_l1Less.f
   repeat' first
   | (with_reducible exact ih0 _ _)
   | (with_reducible exact ih1 _ _ _ _)
   | (with_reducible exact ih2 _ _ _ _ _ _)
   | (with_reducible exact LeO.refl _)
   | (with_reducible exact LeO.none _)
   | (with_reducible refine LeO.ite ?_ ?_)
   | (with_reducible refine LeO.bind ?_ (fun _=>?_))
   | exact ih0 _ _
   | exact ih1 _ _ _ _
   | exact ih2 _ _ _ _ _ _
   | exact LeO.none _
   | refine LeO.ite ?_ ?_
   | refine LeO.bind ?_ (fun _=>?_)
  ·intro y0 y1 y2 y3
   unfold spec_l1Less.l0
   repeat' first
   | (with_reducible exact ih0 _ _)
   | (with_reducible exact ih1 _ _ _ _)
   | (with_reducible exact ih2 _ _ _ _ _ _)
   | (with_reducible exact LeO.refl _)
   | (with_reducible exact LeO.none _)
   | (with_reducible refine LeO.ite ?_ ?_)
   | (with_reducible refine LeO.bind ?_ (fun _=>?_))
   | exact ih0 _ _
   | exact ih1 _ _ _ _
   | exact ih2 _ _ _ _ _ _
   | exact LeO.none _
   | refine LeO.ite ?_ ?_
   | refine LeO.bind ?_ (fun _=>?_)
  ·intro y0 y1 y2 y3 y4 y5
   unfold spec_l1Less.l1
   repeat' first
   | (with_reducible exact ih0 _ _)
   | (with_reducible exact ih1 _ _ _ _)
   | (with_reducible exact ih2 _ _ _ _ _ _)
   | (with_reducible exact LeO.refl _)
   | (with_reducible exact LeO.none _)
   | (with_reducible refine LeO.ite ?_ ?_)
   | (with_reducible refine LeO.bind ?_ (fun _=>?_))
   | exact ih0 _ _
   | exact ih1 _ _ _ _
   | exact ih2 _ _ _ _ _ _
   | exact LeO.none _
   | refine LeO.ite ?_ ?_
   | refine LeO.bind ?_ (fun _=>?_)
theorem spec_l1Less.mono:∀ a0 a1 k,LeO (spec_l1Less.f k a0 a1) (spec_l1Less.f (k+1) a0 a1):=by
 intro a0 a1 k
 obtain ⟨ih0,ih1,ih2⟩:=spec_l1Less.mono_l k
 exact ih0 a0 a1
def spec_l1Less.T9:Bool × List (List Nat × List Nat):=(true,[([],[]),([0],[0]),([],[]),([1,2],[1,2]),([3],[3]),([],[]),([5],[5]),([],[]),([],[]),([7,8],[7,8]),([6,9],[6,9]),([10],[10]),([4,11],[4,11]),([12,0,1,2,3,4,5,6,7,8,9,10,11,12],[12])])
def spec_l1Less.B9:List Nat:=[0,1,0,7,15,0,32,0,0,384,992,2016,4095,8191]
theorem spec_l1Less.tab9:rtab .any (opsOf Try.f23 9)=spec_l1Less.T9:=by kernel_rfl
theorem spec_l1Less.bits9:waitsOk spec_l1Less.T9.2 spec_l1Less.B9=true:=by kernel_rfl
def spec_l1Less.T11:Bool × List (List Nat × List Nat):=(true,[([],[]),([0],[0]),([],[]),([2],[2]),([],[]),([3,4],[3,4]),([1,5],[1,5]),([6],[6]),([7,7,0,1,2,3,4,5,6,7],[7])])
def spec_l1Less.B11:List Nat:=[0,1,0,4,0,28,63,127,255]
theorem spec_l1Less.tab11:rtab .any (opsOf Try.f23 11)=spec_l1Less.T11:=by kernel_rfl
theorem spec_l1Less.bits11:waitsOk spec_l1Less.T11.2 spec_l1Less.B11=true:=by kernel_rfl
def spec_l1Less.T13:Bool × List (List Nat × List Nat):=(true,[([],[]),([0],[0]),([1],[1]),([2],[2]),([3,2],[2,3]),([2],[2]),([5,2],[2,5]),([4,6,2],[2,4,6]),([7,2],[2,7]),([2],[2]),([9,2],[2,9]),([2],[2]),([11,2],[2,11]),([10,12,2],[2,10,12]),([13,2],[2,13]),([8,14,2],[2,8,14]),([2,15],[2,15])])
def spec_l1Less.B13:List Nat:=[0,1,3,7,15,7,39,127,255,7,519,7,2055,7687,15879,32767,65535]
theorem spec_l1Less.tab13:rtab .any (opsOf Try.f23 13)=spec_l1Less.T13:=by kernel_rfl
theorem spec_l1Less.bits13:waitsOk spec_l1Less.T13.2 spec_l1Less.B13=true:=by kernel_rfl
def spec_l1Less.T14:Bool × List (List Nat × List Nat):=(true,[([],[]),([0],[0]),([],[]),([2],[2]),([1,3],[1,3]),([4],[4]),([5],[5]),([],[]),([7],[7]),([],[]),([9],[9]),([8,10],[8,10]),([6,11],[6,11]),([12,12,0,1,2,3,4,5,6,7,8,9,10,11,12],[12])])
def spec_l1Less.B14:List Nat:=[0,1,0,4,15,31,63,0,128,0,512,1920,4095,8191]
theorem spec_l1Less.tab14:rtab .any (opsOf Try.f23 14)=spec_l1Less.T14:=by kernel_rfl
theorem spec_l1Less.bits14:waitsOk spec_l1Less.T14.2 spec_l1Less.B14=true:=by kernel_rfl
set_option maxHeartbeats 8000000 in
set_option maxRecDepth 100000 in
theorem spec_l1Less.calls (k:Nat):∀ (P0_0_:Nat→Prop) (A0_0:Option Addr) (c0_0:Nat) (l0_0:List Bool) (P0_1_:Nat→Prop) (A0_1:Option Addr) (c0_1:Nat) (l0_1:List Bool) (r1:List Bool) (r2:List Bool) (w:World) (hs0_0:Kd.V Kd.bool 4 w w.heap.size (fun k_=>P0_0_ k_) (.slice A0_0 l0_0.length c0_0) l0_0) (hs0_1:Kd.V Kd.bool 4 w w.heap.size (fun k_=>P0_1_ k_) (.slice A0_1 l0_1.length c0_1) l0_1) (h:spec_l1Less.f k l0_0 l0_1=some (r1,r2)),
  Calls Try.prog 23 #[.agg #[.slice A0_0 l0_0.length c0_0,.slice A0_1 l0_1.length c0_1]] w fun e w'=>∃ v0_ v1_:Value,e=.returned (.agg #[v0_,v1_])∧Kd.V Kd.bool 4 w' w.heap.size (fun k_=>((P0_0_ k_ ∨ P0_1_ k_) ∨ w.heap.size≤k_)) v0_ r1∧Kd.V Kd.bool 4 w' w.heap.size (fun k_=>((P0_0_ k_ ∨ P0_1_ k_) ∨ w.heap.size≤k_)) v1_ r2∧Below w.heap.size w w':=by
 induction k using Nat.strongRecOn with
 | _ k ih =>
 intro P0_0_ A0_0 c0_0 l0_0 P0_1_ A0_1 c0_1 l0_1 r1 r2 w hs0_0 hs0_1 h
 cases k with
 | zero=>exact absurd h (by simp [spec_l1Less.f])
 | succ k =>
 simp only [spec_l1Less.f] at h
 have hu41:=Try.underlying41
 have HO0_0:=Aside0.mk (show Kd.V Kd.bool 4 w w.heap.size (fun k_=>((P0_0_ k_ ∨ P0_1_ k_) ∨ w.heap.size≤k_)) (.slice A0_0 l0_0.length c0_0) l0_0 from Kd.V_mono hs0_0 (fun k_ hk=>.inl (.inl hk)))
 have HO0_1:=Aside0.mk (show Kd.V Kd.bool 4 w w.heap.size (fun k_=>((P0_0_ k_ ∨ P0_1_ k_) ∨ w.heap.size≤k_)) (.slice A0_1 l0_1.length c0_1) l0_1 from Kd.V_mono hs0_1 (fun k_ hk=>.inl (.inr hk)))
 have HB:=Aside0.mk (Below.refl w.heap.size w)
 have H:(spec_l1Less.l0 k (l0_1.length:Int) 1 l0_0 l0_1)=some (r1,r2):=h
 clear h
 have H':=Aside0.mk H
 clear H
 go_enter Try.func23,Try.ntmps23
 go_wp2_with (first|((with_reducible refine gate_dst (N:=1) rfl ?_);refine box_event ?hg (N:=1) ?hd (cs:=#[.slice A0_0 l0_0.length c0_0,.slice A0_1 l0_1.length c0_1]) (t:=41) ?hr ?_;(case hd=>rfl);(case hg=>rfl);(case hr=>first|(go_simp;done)|(go_simp;rfl));intro gb260 hg w2 hbox hb;have n0_:=Aside0.mk (Kd.V_below (Kd.V_elderB (by (with_reducible repeat (first|apply Kd.V_alloc|apply Kd.V_drewN|apply Kd.V_drew));exact HO0_0.out) gb260 (Nat.le_of_eq hg.symm)) hb);have n1_:=Aside0.mk (Kd.V_below (Kd.V_elderB (by (with_reducible repeat (first|apply Kd.V_alloc|apply Kd.V_drewN|apply Kd.V_drew));exact HO0_1.out) gb260 (Nat.le_of_eq hg.symm)) hb);have n2_:=Aside0.mk (yP (by repeat (first|(with_reducible first|exact HB.out|apply yA|apply yB|apply yC)|exact HB.out)) hb);have n3_:=Aside0.mk (hbox);have n4_:=Aside0.mk ((by rw [hg];exact (yQ (by repeat (first|(with_reducible first|exact HB.out|apply yA|apply yB|apply yC)|exact HB.out))):w.heap.size≤gb260));have n5_:=Aside0.mk ((by rw [hg];exact (yQ (by repeat (first|(with_reducible first|exact HB.out|apply yA|apply yB|apply yC)|exact HB.out))):w.heap.size≤gb260));clear HO0_0;clear HO0_1;clear HB;have HO0_0:=n0_;have HO0_1:=n1_;have HB:=n2_;have BK260:=n3_;have GW260:=n4_;have GE260:=n5_;clear n0_ n1_ n2_ n3_ n4_ n5_;clear hb hbox hg)|((with_reducible refine gate_dst (N:=2) rfl ?_);refine box_event ?hg (N:=2) ?hd (cs:=#[.slice none 0 0,.slice none 0 0]) (t:=41) ?hr ?_;(case hd=>rfl);(case hg=>rfl);(case hr=>first|(go_simp;done)|(go_simp;rfl));intro gb261 hg w3 hbox hb;have n0_:=Aside0.mk (Kd.V_below (Kd.V_elderB (by (with_reducible repeat (first|apply Kd.V_alloc|apply Kd.V_drewN|apply Kd.V_drew));exact HO0_0.out) gb261 (Nat.le_of_eq hg.symm)) hb);have n1_:=Aside0.mk (Kd.V_below (Kd.V_elderB (by (with_reducible repeat (first|apply Kd.V_alloc|apply Kd.V_drewN|apply Kd.V_drew));exact HO0_1.out) gb261 (Nat.le_of_eq hg.symm)) hb);have n2_:=Aside0.mk (blk_below (g:=gb260) (o:=.cells #[.slice A0_0 l0_0.length c0_0,.slice A0_1 l0_1.length c0_1] 41 (0,0)) (by (with_reducible repeat (first|refine yE ?_ _|refine yF ?_|refine yG ?_ _));exact BK260.out) hb);have n3_:=Aside0.mk (yP (by repeat (first|(with_reducible first|exact HB.out|apply yA|apply yB|apply yC|refine yD ?_ GE260.out)|exact HB.out)) hb);have n4_:=Aside0.mk (hbox);have n5_:=Aside0.mk ((by rw [hg];exact (yQ (by repeat (first|(with_reducible first|exact HB.out|apply yA|apply yB|apply yC|refine yD ?_ GE260.out)|exact HB.out))):w.heap.size≤gb261));have n6_:=Aside0.mk ((by rw [hg];exact (yQ (by repeat (first|(with_reducible first|exact HB.out|apply yA|apply yB|apply yC|refine yD ?_ GE260.out)|exact HB.out))):w.heap.size≤gb261));have n7_:=Aside0.mk ((by rw [hg];exact Nat.ne_of_lt (blk_lt (g:=gb260) (o:=.cells #[.slice A0_0 l0_0.length c0_0,.slice A0_1 l0_1.length c0_1] 41 (0,0)) (by (with_reducible repeat (first|refine yE ?_ _|refine yF ?_|refine yG ?_ _));exact BK260.out)):gb260≠gb261));have n8_:=Aside0.mk ((by rw [hg];exact Nat.ne_of_gt (blk_lt (g:=gb260) (o:=.cells #[.slice A0_0 l0_0.length c0_0,.slice A0_1 l0_1.length c0_1] 41 (0,0)) (by (with_reducible repeat (first|refine yE ?_ _|refine yF ?_|refine yG ?_ _));exact BK260.out)):gb261≠gb260));clear HO0_0;clear HO0_1;clear BK260;clear HB;have HO0_0:=n0_;have HO0_1:=n1_;have BK260:=n2_;have HB:=n3_;have BK261:=n4_;have GW261:=n5_;have GE261:=n6_;have NB260_261:=n7_;have NB261_260:=n8_;clear n0_ n1_ n2_ n3_ n4_ n5_ n6_ n7_ n8_;clear hb hbox hg;have hnb4:=NB260_261.out;have hnc4:=NB261_260.out;have hcz5_0:w3.cell? ⟨gb260,0,none⟩=some (.slice A0_0 l0_0.length c0_0):=(blk_cell BK260.out 0).trans rfl;have hcz5_1:w3.cell? ⟨gb260,1,none⟩=some (.slice A0_1 l0_1.length c0_1):=(blk_cell BK260.out 1).trans rfl;have hfz5_0:=blk_frozen BK260.out 0;have hfz5_1:=blk_frozen BK260.out 1))
 go_loopg [4] k (fun kq v4 w'=>∃ (x4_1:Int),v4=.int .i64 x4_1∧Aside0 (spec_l1Less.l0 kq (l0_1.length:Int) x4_1 l0_0 l0_1=some (r1,r2))∧Aside0 (kq≤k)∧Aside0 (Kd.V Kd.bool 4 w' w.heap.size (fun k_=>((P0_0_ k_ ∨ P0_1_ k_) ∨ w.heap.size≤k_)∧k_≠gb260∧k_≠gb261) (.slice A0_0 l0_0.length c0_0) l0_0)∧Aside0 (Kd.V Kd.bool 4 w' w.heap.size (fun k_=>((P0_0_ k_ ∨ P0_1_ k_) ∨ w.heap.size≤k_)∧k_≠gb260∧k_≠gb261) (.slice A0_1 l0_1.length c0_1) l0_1)∧Aside0 (w'.heap[gb260]?=some (.cells #[(.slice A0_0 l0_0.length c0_0),(.slice A0_1 l0_1.length c0_1)] 41 (0,0)))∧Aside0 (w'.heap[gb261]?=some (.cells #[(.slice none 0 0),(.slice none 0 0)] 41 (0,0)))∧Aside0 (Below w.heap.size w w'))
 case atStart=>exact ⟨(1),(by first|rfl|(simp;done)|(simp [*];done)|(simp [Int.tmod_eq_emod_of_nonneg];done)),H',⟨Nat.le_refl _⟩,⟨by (with_reducible repeat (first|apply Kd.V_alloc|apply Kd.V_drewN|apply Kd.V_drew));exact Kd.V_mono HO0_0.out (fun _ hk=>⟨hk.1.1,⟨hk.1.2,hk.2⟩⟩)⟩,⟨by (with_reducible repeat (first|apply Kd.V_alloc|apply Kd.V_drewN|apply Kd.V_drew));exact Kd.V_mono HO0_1.out (fun _ hk=>⟨hk.1.1,⟨hk.1.2,hk.2⟩⟩)⟩,⟨by (with_reducible repeat (first|refine yE ?_ _|refine yF ?_|refine yG ?_ _));exact BK260.out⟩,⟨by (with_reducible repeat (first|refine yE ?_ _|refine yF ?_|refine yG ?_ _));exact BK261.out⟩,⟨by repeat (first|(with_reducible first|exact HB.out|apply yA|apply yB|apply yC|refine yD ?_ GE260.out|refine yD ?_ GE261.out)|exact HB.out)⟩⟩
 case round =>
  clear H'
  try clear c2
  try clear p2
  try clear c4
  try clear hcz5_0
  try clear hcz5_1
  try clear hfz5_0
  try clear hfz5_1
  obtain ⟨x4_1,rfl,HA,HK1,HO_261000,HO_261001,BK260,BK261,HB⟩:=hrel
  cases gk with
  | zero=>exact absurd HA.out (by simp [spec_l1Less.l0])
  | succ k1 =>
   have H:=HA.out
   clear HA
   simp only [spec_l1Less.l0] at H
   by_cases c6:x4_1<(l0_1.length:Int)
   ·rw [if_pos c6] at H
    have c6b0:decide (x4_1<(l0_1.length:Int))=true:=decide_eq_true c6
    clear c6
    by_cases c7:x4_1=0
    ·rw [if_pos c7] at H
     exact absurd H (by simp)
    ·rw [if_neg c7] at H
     have c7b0:(x4_1 == 0)=false:=beq_eq_false_iff_ne.mpr c7
     have c7b1:(x4_1 != 0)=true:=bne_iff_ne.mpr c7
     have H':=Aside0.mk H
     clear H
     go_wp2
     go_loopg [5,6] k1 (fun kq v5 v6 w'=>∃ (x5_2:Bool) (x6_2:Int),v5=.bool x5_2∧v6=.int .i64 x6_2∧Aside0 (spec_l1Less.l1 kq (l0_1.length:Int) x4_1 x5_2 x6_2 l0_0 l0_1=some (r1,r2))∧Aside0 (kq≤k1)∧Aside0 (Kd.V Kd.bool 4 w' w.heap.size (fun k_=>((P0_0_ k_ ∨ P0_1_ k_) ∨ w.heap.size≤k_)∧k_≠gb260∧k_≠gb261) (.slice A0_0 l0_0.length c0_0) l0_0)∧Aside0 (Kd.V Kd.bool 4 w' w.heap.size (fun k_=>((P0_0_ k_ ∨ P0_1_ k_) ∨ w.heap.size≤k_)∧k_≠gb260∧k_≠gb261) (.slice A0_1 l0_1.length c0_1) l0_1)∧Aside0 (w'.heap[gb260]?=some (.cells #[(.slice A0_0 l0_0.length c0_0),(.slice A0_1 l0_1.length c0_1)] 41 (0,0)))∧Aside0 (w'.heap[gb261]?=some (.cells #[(.slice none 0 0),(.slice none 0 0)] 41 (0,0)))∧Aside0 (Below w.heap.size w w'))
     case atStart=>exact ⟨(((Int.tmod (l0_1.length:Int) x4_1) == 0)),(x4_1),(by first|rfl|(simp;done)|(simp [*];done)|(simp [Int.tmod_eq_emod_of_nonneg];done)),(by first|rfl|(simp;done)|(simp [*];done)|(simp [Int.tmod_eq_emod_of_nonneg];done)),H',⟨Nat.le_refl _⟩,⟨by (with_reducible repeat (first|apply Kd.V_alloc|apply Kd.V_drewN|apply Kd.V_drew));exact HO_261000.out⟩,⟨by (with_reducible repeat (first|apply Kd.V_alloc|apply Kd.V_drewN|apply Kd.V_drew));exact HO_261001.out⟩,⟨by (with_reducible repeat (first|refine yE ?_ _|refine yF ?_|refine yG ?_ _));exact BK260.out⟩,⟨by (with_reducible repeat (first|refine yE ?_ _|refine yF ?_|refine yG ?_ _));exact BK261.out⟩,⟨by repeat (first|(with_reducible first|exact HB.out|apply yA|apply yB|apply yC|refine yD ?_ GE260.out|refine yD ?_ GE261.out)|exact HB.out)⟩⟩
     case round =>
      clear H'
      try clear c2
      try clear p2
      try clear c4
      try clear c6
      try clear c6b0
      try clear c7
      try clear c7b0
      try clear c7b1
      try clear hcz5_0
      try clear hcz5_1
      try clear hfz5_0
      try clear hfz5_1
      try clear p2
      obtain ⟨x5_2,x6_2,rfl,rfl,HA,HK2,HO_261000,HO_261001,BK260,BK261,HB⟩:=hrel
      cases gk with
      | zero=>exact absurd HA.out (by simp [spec_l1Less.l1])
      | succ k2 =>
       have H:=HA.out
       clear HA
       simp only [spec_l1Less.l1] at H
       by_cases c8:x6_2<(l0_1.length:Int)
       ·rw [if_pos c8] at H
        have c8b0:decide (x6_2<(l0_1.length:Int))=true:=decide_eq_true c8
        clear c8
        by_cases c9:x5_2=true
        ·subst c9
         have H1:(if 0≤x6_2 then (if x6_2<(l0_1.length:Int) then (if 0≤(wrap64 (x6_2 - x4_1)) then (if (wrap64 (x6_2 - x4_1))<(l0_1.length:Int) then (spec_l1Less.l1 k2 (l0_1.length:Int) x4_1 ((rdOf false l0_1 x6_2) == (rdOf false l0_1 (wrap64 (x6_2 - x4_1)))) (wrap64 (x6_2+1)) l0_0 l0_1) else (none)) else (none)) else (none)) else (none))=some (r1,r2):=by rw [if_pos rfl] at H;exact H
         clear H
         have H:=H1
         clear H1
         by_cases c10:0≤x6_2
         ·rw [if_pos c10] at H
          have c10b0:decide (0≤x6_2)=true:=decide_eq_true c10
          clear c10
          by_cases c11:x6_2<(l0_1.length:Int)
          ·rw [if_pos c11] at H
           have c11b0:decide (x6_2<(l0_1.length:Int))=true:=decide_eq_true c11
           clear c11
           obtain ⟨ji12,hji12⟩:∃ j_:Int,(wrap64 (x6_2 - x4_1))=j_:=⟨_,rfl⟩
           replace H:(if 0≤(ji12) then (if (ji12)<(l0_1.length:Int) then (spec_l1Less.l1 k2 (l0_1.length:Int) x4_1 ((rdOf false l0_1 x6_2) == (rdOf false l0_1 (ji12))) (wrap64 (x6_2+1)) l0_0 l0_1) else (none)) else (none))=some (r1,r2):=by first|(rw [hji12] at H;exact H)|(simp only [hji12] at H ⊢;exact H)
           have hji12w:(IntKind.i64.wrap (x6_2 - x4_1))=ji12:=(i64_w _).trans hji12
           by_cases c13:0≤(ji12)
           ·rw [if_pos c13] at H
            have c13b0:decide (0≤(ji12))=true:=decide_eq_true c13
            clear c13
            by_cases c14:(ji12)<(l0_1.length:Int)
            ·rw [if_pos c14] at H
             have c14b0:decide ((ji12)<(l0_1.length:Int))=true:=decide_eq_true c14
             clear c14
             have H':=Aside0.mk H
             clear H
             try go_wp2
             have n0_:=Aside0.mk (Kd.V_drew HO_261000.out)
             have n1_:=Aside0.mk (Kd.V_drew HO_261001.out)
             have n2_:=Aside0.mk (yF BK260.out)
             have n3_:=Aside0.mk (yF BK261.out)
             have n4_:=Aside0.mk (yC HB.out)
             clear HO_261000
             clear HO_261001
             clear BK260
             clear BK261
             clear HB
             have HO_261000:=n0_
             have HO_261001:=n1_
             have BK260:=n2_
             have BK261:=n3_
             have HB:=n4_
             clear n0_ n1_ n2_ n3_ n4_
             have p287:0≤(x6_2:Int):=of_decide_eq_true (by first|(with_reducible assumption)|assumption)
             have q287:x6_2<(l0_1.length:Int):=of_decide_eq_true (by first|(with_reducible assumption)|assumption)
             obtain ⟨ad287,e287,hx287_0⟩:=Kd.at_bool (Kd.V_reads' HO_261001.out).2.2 x6_2 p287 q287
             cases e287
             replace p287:=eq_true p287
             replace q287:=eq_true q287
             have p288:0≤((ji12):Int):=of_decide_eq_true (by first|(with_reducible assumption)|assumption)
             have q288:(ji12)<(l0_1.length:Int):=of_decide_eq_true (by first|(with_reducible assumption)|assumption)
             obtain ⟨ad288,e288,hx288_0⟩:=Kd.at_bool (Kd.V_reads' HO_261001.out).2.2 (ji12) p288 q288
             obtain rfl:ad287=ad288:=(by injection e288)
             replace p288:=eq_true p288
             replace q288:=eq_true q288
             refine start_ (n:=14) (S:=fun w'=>w'.cell? ⟨gb260,0,none⟩=some (.slice A0_0 l0_0.length c0_0)∧w'.cell? ⟨gb260,1,none⟩=some (.slice (some ad287) l0_1.length c0_1)∧w'.cell? (ad287.add (x6_2).toNat)=some (.bool (rdOf false l0_1 x6_2))∧w'.cell? (ad287.add ((ji12)).toNat)=some (.bool (rdOf false l0_1 (ji12)))) (ds:=[]) #[false,false,false,false,false,false,false,false,false,false,false,false,false,false] (by kernel_rfl) rfl rfl ⟨(blk_cell BK260.out 0).trans rfl,(blk_cell BK260.out 1).trans rfl,hx287_0,hx288_0⟩ (fun hHeld=>?_);refine with_tabW spec_l1Less.tab9 spec_l1Less.bits9 (fun HT_ HW_=>?_)
             generalize wr.drew=w15 at HO_261000 HO_261001 BK260 BK261 HB hx287_0 hx288_0 hHeld ⊢
             refine pure_ (i:=0) (N:=some 30) (v:=?_) (a':=?_) #[true,false,false,false,false,false,false,false,false,false,false,false,false,false] rfl rfl (any_of HT_.out (by kernel_rfl)) (fun _ _ _ h=>h) (Or.inl ⟨by rfl,?_⟩) ?_ ?_
             rotate_left
             ·intro w'
              go_simp
              with_reducible rfl
             rotate_left
             ·simp only [Act.put,yK,yL,yM,i64_w,i32_w]
              rfl
             refine pure_ (i:=2) (N:=some 32) (v:=?_) (a':=?_) #[true,false,true,false,false,false,false,false,false,false,false,false,false,false] rfl rfl (any_of HT_.out (by kernel_rfl)) (fun _ _ _ h=>h) (Or.inl ⟨by rfl,?_⟩) ?_ ?_
             rotate_left
             ·intro w'
              go_simp
              with_reducible rfl
             rotate_left
             ·simp only [Act.put,yK,yL,yM,i64_w,i32_w]
              rfl
             refine pure_ (i:=5) (N:=some 35) (v:=?_) (a':=?_) #[true,false,true,false,false,true,false,false,false,false,false,false,false,false] rfl rfl (any_of HT_.out (by kernel_rfl)) (fun _ _ _ h=>h) (Or.inl ⟨by rfl,?_⟩) ?_ ?_
             rotate_left
             ·intro w'
              go_simp
              with_reducible rfl
             rotate_left
             ·simp only [Act.put,yK,yL,yM,i64_w,i32_w]
              rfl
             refine pure_ (i:=7) (N:=some 37) (v:=?_) (a':=?_) #[true,false,true,false,false,true,false,true,false,false,false,false,false,false] rfl rfl (any_of HT_.out (by kernel_rfl)) (fun _ _ _ h=>h) (Or.inl ⟨by rfl,?_⟩) ?_ ?_
             rotate_left
             ·intro w'
              go_simp
              with_reducible rfl
             rotate_left
             ·simp only [Act.put,yK,yL,yM,i64_w,i32_w]
              rfl
             refine pure_ (i:=8) (N:=some 38) (v:=?_) (a':=?_) #[true,false,true,false,false,true,false,true,true,false,false,false,false,false] rfl rfl (any_of HT_.out (by kernel_rfl)) (fun _ _ _ h=>h) (Or.inl ⟨by rfl,?_⟩) ?_ ?_
             rotate_left
             ·intro w'
              go_simp
              with_reducible rfl
             rotate_left
             ·simp only [Act.put,yK,yL,yM,i64_w,i32_w]
              rfl
             refine pure_ (i:=9) (N:=some 39) (v:=?_) (a':=?_) #[true,false,true,false,false,true,false,true,true,true,false,false,false,false] rfl rfl (any_of HT_.out (by kernel_rfl)) (fun _ _ _ h=>h) (Or.inl ⟨by rfl,?_⟩) ?_ ?_
             rotate_left
             ·intro w'
              go_simp
              with_reducible rfl
             rotate_left
             ·simp only [Act.put,yK,yL,yM,i64_w,i32_w]
              rfl
             refine take_ (i:=1) (N:=some 31) (v:=?_) (a':=?_) #[true,true,true,false,false,true,false,true,true,true,false,false,false,false] rfl rfl (take_ofW HT_.out HW_.out (by kernel_rfl)) (fun _ _ _ h=>h) (Or.inl ⟨by rfl,?_⟩) hHeld ?_ ?_
             rotate_left
             ·rintro w' ⟨s0,s1,s2,s3⟩
              go_simp
              with_reducible rfl
             rotate_left
             ·simp only [Act.put,yK,yL,yM,i64_w,i32_w]
              rfl
             refine pure_ (i:=3) (N:=some 33) (v:=?_) (a':=?_) #[true,true,true,true,false,true,false,true,true,true,false,false,false,false] rfl rfl (any_of HT_.out (by kernel_rfl)) (fun _ _ _ h=>h) (Or.inl ⟨by rfl,?_⟩) ?_ ?_
             rotate_left
             ·intro w'
              go_simp
              with_reducible rfl
             rotate_left
             ·simp only [Act.put,yK,yL,yM,i64_w,i32_w]
              rfl
             refine take_ (i:=4) (N:=some 34) (v:=?_) (a':=?_) #[true,true,true,true,true,true,false,true,true,true,false,false,false,false] rfl rfl (take_ofW HT_.out HW_.out (by kernel_rfl)) (fun _ _ _ h=>h) (Or.inl ⟨by rfl,?_⟩) hHeld ?_ ?_
             rotate_left
             ·rintro w' ⟨s0,s1,s2,s3⟩
              go_simp
              with_reducible rfl
             rotate_left
             ·simp only [Act.put,yK,yL,yM,i64_w,i32_w]
              rfl
             refine take_ (i:=6) (N:=some 36) (v:=?_) (a':=?_) #[true,true,true,true,true,true,true,true,true,true,false,false,false,false] rfl rfl (take_ofW HT_.out HW_.out (by kernel_rfl)) (fun _ _ _ h=>h) (Or.inl ⟨by rfl,?_⟩) hHeld ?_ ?_
             rotate_left
             ·rintro w' ⟨s0,s1,s2,s3⟩
              go_simp
              with_reducible rfl
             rotate_left
             ·simp only [Act.put,yK,yL,yM,i64_w,i32_w]
              rfl
             refine pure_ (i:=10) (N:=some 40) (v:=?_) (a':=?_) #[true,true,true,true,true,true,true,true,true,true,true,false,false,false] rfl rfl (any_of HT_.out (by kernel_rfl)) (fun _ _ _ h=>h) (Or.inl ⟨by rfl,?_⟩) ?_ ?_
             rotate_left
             ·intro w'
              go_simp
              with_reducible rfl
             rotate_left
             ·simp only [Act.put,yK,yL,yM,i64_w,i32_w]
              rfl
             refine take_ (i:=11) (N:=some 41) (v:=?_) (a':=?_) #[true,true,true,true,true,true,true,true,true,true,true,true,false,false] rfl rfl (take_ofW HT_.out HW_.out (by kernel_rfl)) (fun _ _ _ h=>h) (Or.inl ⟨by rfl,?_⟩) hHeld ?_ ?_
             rotate_left
             ·rintro w' ⟨s0,s1,s2,s3⟩
              go_simp
              with_reducible rfl
             rotate_left
             ·simp only [Act.put,yK,yL,yM,i64_w,i32_w]
              rfl
             refine pure_ (i:=12) (N:=some 42) (v:=?_) (a':=?_) #[true,true,true,true,true,true,true,true,true,true,true,true,true,false] rfl rfl (any_of HT_.out (by kernel_rfl)) (fun _ _ _ h=>h) (Or.inl ⟨by rfl,?_⟩) ?_ ?_
             rotate_left
             ·intro w'
              go_simp
              with_reducible rfl
             rotate_left
             ·simp only [Act.put,yK,yL,yM,i64_w,i32_w]
              rfl
             refine pure_ (i:=13) (N:=some 5) (v:=?_) (a':=?_) #[true,true,true,true,true,true,true,true,true,true,true,true,true,true] rfl rfl (any_of HT_.out (by kernel_rfl)) (fun _ _ _ h=>h) (Or.inl ⟨by rfl,?_⟩) ?_ ?_
             rotate_left
             ·intro w'
              go_simp
              with_reducible rfl
             rotate_left
             ·simp only [Act.put,yK,yL,yM,i64_w,i32_w]
              rfl
             refine done_ (done_of HT_.out (by kernel_rfl)) ?_
             try go_wp2
             go_roundg k2
             case measure=>have:=HK1.out;have:=HK2.out;omega
             case rel=>exact ⟨(((rdOf false l0_1 x6_2) == (rdOf false l0_1 (ji12)))),(wrap64 (x6_2+1)),(by first|rfl|(simp;done)|(simp only [← hji12]<;>(first|rfl|simp))|(simp [*];done)),(by first|rfl|(simp;done)|(simp [*];done)|(simp [Int.tmod_eq_emod_of_nonneg];done)),H',⟨by have:=HK1.out;have:=HK2.out;omega⟩,⟨by (with_reducible repeat (first|apply Kd.V_alloc|apply Kd.V_drewN|apply Kd.V_drew));exact HO_261000.out⟩,⟨by (with_reducible repeat (first|apply Kd.V_alloc|apply Kd.V_drewN|apply Kd.V_drew));exact HO_261001.out⟩,⟨by (with_reducible repeat (first|refine yE ?_ _|refine yF ?_|refine yG ?_ _));exact BK260.out⟩,⟨by (with_reducible repeat (first|refine yE ?_ _|refine yF ?_|refine yG ?_ _));exact BK261.out⟩,⟨by repeat (first|(with_reducible first|exact HB.out|apply yA|apply yB|apply yC|refine yD ?_ GE260.out|refine yD ?_ GE261.out)|exact HB.out)⟩⟩
            ·rw [if_neg c14] at H
             exact absurd H (by simp)
           ·rw [if_neg c13] at H
            exact absurd H (by simp)
          ·rw [if_neg c11] at H
           exact absurd H (by simp)
         ·rw [if_neg c10] at H
          exact absurd H (by simp)
        ·replace c9:=Bool.eq_false_iff.mpr c9
         subst c9
         have H1:(spec_l1Less.l0 k2 (l0_1.length:Int) (wrap64 (x4_1+1)) l0_0 l0_1)=some (r1,r2):=by rw [if_neg (show ¬ (false=true) by decide)] at H;exact H
         clear H
         have H:=H1
         clear H1
         have H':=Aside0.mk H
         clear H
         go_wp2
         go_roundg k2
         case measure=>have:=HK1.out;have:=HK2.out;omega
         case rel=>exact ⟨(wrap64 (x4_1+1)),(by first|rfl|(simp;done)|(simp [*];done)|(simp [Int.tmod_eq_emod_of_nonneg];done)),H',⟨by have:=HK1.out;have:=HK2.out;omega⟩,⟨by (with_reducible repeat (first|apply Kd.V_alloc|apply Kd.V_drewN|apply Kd.V_drew));exact HO_261000.out⟩,⟨by (with_reducible repeat (first|apply Kd.V_alloc|apply Kd.V_drewN|apply Kd.V_drew));exact HO_261001.out⟩,⟨by (with_reducible repeat (first|refine yE ?_ _|refine yF ?_|refine yG ?_ _));exact BK260.out⟩,⟨by (with_reducible repeat (first|refine yE ?_ _|refine yF ?_|refine yG ?_ _));exact BK261.out⟩,⟨by repeat (first|(with_reducible first|exact HB.out|apply yA|apply yB|apply yC|refine yD ?_ GE260.out|refine yD ?_ GE261.out)|exact HB.out)⟩⟩
       ·rw [if_neg c8] at H
        have c8b0:decide (x6_2<(l0_1.length:Int))=false:=decide_eq_false c8
        clear c8
        by_cases c16:x5_2=true
        ·subst c16
         have H1:(if 0≤x4_1 then (if x4_1≤(l0_1.length:Int) then ((spec_l1Less.f k2 l0_0 (l0_1.take (x4_1:Int).toNat)).bind fun bt294=>(some (bt294.1,bt294.2))) else (none)) else (none))=some (r1,r2):=by rw [if_pos rfl] at H;exact H
         clear H
         have H:=H1
         clear H1
         by_cases c17:0≤x4_1
         ·rw [if_pos c17] at H
          have c17b0:=eq_true c17
          have c17b1:decide (0≤x4_1)=true:=decide_eq_true c17
          clear c17
          by_cases c18:x4_1≤(l0_1.length:Int)
          ·rw [if_pos c18] at H
           have c18b0:=eq_true c18
           have c18b1:decide (x4_1≤(l0_1.length:Int))=true:=decide_eq_true c18
           clear c18
           obtain ⟨y289,hy289⟩:∃ y_:List Bool,y_=(l0_1.take (x4_1:Int).toNat):=⟨_,rfl⟩
           replace H:((spec_l1Less.f k2 l0_0 y289).bind fun bt294=>(some (bt294.1,bt294.2)))=some (r1,r2):=by first|(rw [hy289];with_reducible exact H)|(have H2_:=(Option.bind_some _ _).symm.trans H;rw [hy289];with_reducible exact H2_)|(have H2_:=(Option.bind_some _ _).symm.trans H;with_reducible exact H2_)|with_reducible exact H|(rw [hy289];exact H)|exact H
           have Ny289:=Aside0.mk hy289
           clear hy289
           replace H:=Option.bind_eq_some_iff.mp H
           obtain ⟨⟨t294,t297⟩,A190,H⟩:=H
           replace H:(some (t294,t297))=some (r1,r2):=H
           have A19:=Aside0.mk A190
           clear A190
           simp only [Option.some.injEq,Prod.mk.injEq] at H
           obtain ⟨rfl,rfl⟩:=H
           try go_wp2
           have n0_:=Aside0.mk (Kd.V_drew HO_261000.out)
           have n1_:=Aside0.mk (Kd.V_drew HO_261001.out)
           have n2_:=Aside0.mk (yF BK260.out)
           have n3_:=Aside0.mk (yF BK261.out)
           have n4_:=Aside0.mk (yC HB.out)
           clear HO_261000
           clear HO_261001
           clear BK260
           clear BK261
           clear HB
           have HO_261000:=n0_
           have HO_261001:=n1_
           have BK260:=n2_
           have BK261:=n3_
           have HB:=n4_
           clear n0_ n1_ n2_ n3_ n4_
           have q21:(x4_1:Int)≤((l0_1.length:Int):Int):=of_decide_eq_true (by first|(with_reducible assumption)|assumption)
           obtain ⟨i021,hi021,_,hsz21,_⟩:=info_parts info4
           have hroom21:l0_1.length≤c0_1:=(Kd.V_reads' HO_261001.out).2.1
           have hC21:Kd.F Kd.bool _ _ A0_1 l0_1.length l0_1:=(Kd.V_at (base:=w.heap.size) HO_261001.out).2.2
           have hcut21:=cut_to (P:=Try.prog) 31 4 .i64 Try.underlying31 hi021 A0_1 l0_1.length c0_1 x4_1 (of_decide_eq_true (by first|(with_reducible assumption)|assumption)) q21 hroom21
           have hr21:=Kd.F_take (m:=(x4_1:Int).toNat) hC21 (by omega)
           have hy21:y289.length=(x4_1:Int).toNat:=(by rw [Ny289.out,List.length_take];omega)
           rw [← Ny289.out] at hr21
           rw [← hy21] at hcut21
           have HO293:=Aside0.mk (show Kd.V Kd.bool 4 _ w.heap.size _ (.slice A0_1 y289.length c0_1) y289 from Kd.V_mk (by omega) hr21)
           have HC293:=Aside0.mk (show y289.length≤c0_1 from by omega)
           clear hr21 hC21 hroom21 hi021 hsz21
           have KY21:=Aside0.mk hy21
           clear hy21
           replace q21:=eq_true q21
           refine start_ (n:=9) (S:=fun w'=>w'.cell? ⟨gb260,0,none⟩=some (.slice A0_0 l0_0.length c0_0)∧w'.cell? ⟨gb260,1,none⟩=some (.slice A0_1 l0_1.length c0_1)) (ds:=[]) #[false,false,false,false,false,false,false,false,false] (by kernel_rfl) rfl rfl ⟨(blk_cell BK260.out 0).trans rfl,(blk_cell BK260.out 1).trans rfl⟩ (fun hHeld=>?_);refine with_tabW spec_l1Less.tab11 spec_l1Less.bits11 (fun HT_ HW_=>?_)
           generalize wr.drew=w20 at HO_261000 HO_261001 BK260 BK261 HB HO293 hHeld ⊢
           refine pure_ (i:=0) (N:=some 44) (v:=?_) (a':=?_) #[true,false,false,false,false,false,false,false,false] rfl rfl (any_of HT_.out (by kernel_rfl)) (fun _ _ _ h=>h) (Or.inl ⟨by rfl,?_⟩) ?_ ?_
           rotate_left
           ·intro w'
            go_simp
            with_reducible rfl
           rotate_left
           ·simp only [Act.put,yK,yL,yM,i64_w,i32_w]
            rfl
           refine pure_ (i:=2) (N:=some 46) (v:=?_) (a':=?_) #[true,false,true,false,false,false,false,false,false] rfl rfl (any_of HT_.out (by kernel_rfl)) (fun _ _ _ h=>h) (Or.inl ⟨by rfl,?_⟩) ?_ ?_
           rotate_left
           ·intro w'
            go_simp
            with_reducible rfl
           rotate_left
           ·simp only [Act.put,yK,yL,yM,i64_w,i32_w]
            rfl
           refine pure_ (i:=4) (N:=some 48) (v:=?_) (a':=?_) #[true,false,true,false,true,false,false,false,false] rfl rfl (any_of HT_.out (by kernel_rfl)) (fun _ _ _ h=>h) (Or.inl ⟨by rfl,?_⟩) ?_ ?_
           rotate_left
           ·intro w'
            go_simp
            with_reducible rfl
           rotate_left
           ·simp only [Act.put,yK,yL,yM,i64_w,i32_w]
            rfl
           refine take_ (i:=1) (N:=some 45) (v:=?_) (a':=?_) #[true,true,true,false,true,false,false,false,false] rfl rfl (take_ofW HT_.out HW_.out (by kernel_rfl)) (fun _ _ _ h=>h) (Or.inl ⟨by rfl,?_⟩) hHeld ?_ ?_
           rotate_left
           ·rintro w' ⟨s0,s1⟩
            go_simp
            with_reducible rfl
           rotate_left
           ·simp only [Act.put,yK,yL,yM,i64_w,i32_w]
            rfl
           refine take_ (i:=3) (N:=some 47) (v:=?_) (a':=?_) #[true,true,true,true,true,false,false,false,false] rfl rfl (take_ofW HT_.out HW_.out (by kernel_rfl)) (fun _ _ _ h=>h) (Or.inl ⟨by rfl,?_⟩) hHeld ?_ ?_
           rotate_left
           ·rintro w' ⟨s0,s1⟩
            go_simp
            with_reducible rfl
           rotate_left
           ·simp only [Act.put,yK,yL,yM,i64_w,i32_w]
            rfl
           refine pure_ (i:=5) (N:=some 49) (v:=?_) (a':=?_) #[true,true,true,true,true,true,false,false,false] rfl rfl (any_of HT_.out (by kernel_rfl)) (fun _ _ _ h=>h) (Or.inl ⟨by rfl,?_⟩) ?_ ?_
           rotate_left
           ·intro w'
            go_simp
            with_reducible rfl
           rotate_left
           ·simp only [Act.put,yK,yL,yM,i64_w,i32_w]
            rfl
           refine pure_ (i:=6) (N:=some 50) (v:=?_) (a':=?_) #[true,true,true,true,true,true,true,false,false] rfl rfl (any_of HT_.out (by kernel_rfl)) (fun _ _ _ h=>h) (Or.inl ⟨by rfl,?_⟩) ?_ ?_
           rotate_left
           ·intro w'
            go_simp
            with_reducible rfl
           rotate_left
           ·simp only [Act.put,yK,yL,yM,i64_w,i32_w]
            rfl
           refine one_ (i:=7) (N:=some 51) #[true,true,true,true,true,true,true,true,false] rfl rfl (one_of HT_.out (by kernel_rfl)) (by decide) (fun K hK=>?_)
           refine goes_ Try.func23 (by kernel_rfl) rfl #[.agg #[.slice A0_0 l0_0.length c0_0,.slice A0_1 y289.length c0_1]] (by rfl) rfl rfl (by (try simp only [List.map_toArray,List.map_cons,List.map_nil]);first|done|rfl|(simp only [List.length_drop,List.length_take];rfl)) ?_
           with_reducible refine (ih k2 (by have:=HK1.out;have:=HK2.out;omega) (fun k_=>(((P0_0_ k_ ∨ P0_1_ k_) ∨ w.heap.size≤k_)∧(k_≠gb260∧k_≠gb261))) _ _ l0_0 (fun k_=>(((P0_0_ k_ ∨ P0_1_ k_) ∨ w.heap.size≤k_)∧(k_≠gb260∧k_≠gb261))) _ _ y289 t294 t297 _ ?side1 ?side2 A19.out).mono ?_
           (case side1=>exact HO_261000.out)
           (case side2=>exact HO293.out)
           rintro e w22 ⟨v295,v298,rfl,ho0,ho1,hb⟩
           refine ⟨_,rfl,?_⟩
           have n0_:=Aside0.mk (Kd.V_below (by (with_reducible repeat (first|apply Kd.V_alloc|apply Kd.V_drewN|apply Kd.V_drew));exact HO_261000.out) hb)
           have n1_:=Aside0.mk (Kd.V_below (by (with_reducible repeat (first|apply Kd.V_alloc|apply Kd.V_drewN|apply Kd.V_drew));exact HO_261001.out) hb)
           have n2_:=Aside0.mk (Kd.V_below (by (with_reducible repeat (first|apply Kd.V_alloc|apply Kd.V_drewN|apply Kd.V_drew));exact HO293.out) hb)
           have n3_:=Aside0.mk (Kd.V_lower (Kd.V_mono (ok':=fun k_=>((P0_0_ k_ ∨ P0_1_ k_) ∨ w.heap.size≤k_)∧k_≠gb260∧k_≠gb261) ho0 (fun k_ hk_=>⟨Or.elim hk_ (fun hs_=>Or.elim hs_ (fun hs_=>hs_.1) (fun hs_=>hs_.1)) (fun hn_=>(.inr (Nat.le_trans (yQ (by repeat (first|(with_reducible first|exact HB.out|apply yA|apply yB|apply yC|refine yD ?_ GE260.out|refine yD ?_ GE261.out)|exact HB.out))) hn_))),Or.elim hk_ (fun hs_=>Or.elim hs_ (fun hs_=>hs_.2.1) (fun hs_=>hs_.2.1)) (fun hn_=>(Kd.freshB (g:=gb260) (o:=.cells #[.slice A0_0 l0_0.length c0_0,.slice A0_1 l0_1.length c0_1] 41 (0,0)) (by (with_reducible repeat (first|refine yE ?_ _|refine yF ?_|refine yG ?_ _));exact BK260.out) k_ hn_)),Or.elim hk_ (fun hs_=>Or.elim hs_ (fun hs_=>hs_.2.2) (fun hs_=>hs_.2.2)) (fun hn_=>(Kd.freshB (g:=gb261) (o:=.cells #[.slice none 0 0,.slice none 0 0] 41 (0,0)) (by (with_reducible repeat (first|refine yE ?_ _|refine yF ?_|refine yG ?_ _));exact BK261.out) k_ hn_))⟩)) (yQ (by repeat (first|(with_reducible first|exact HB.out|apply yA|apply yB|apply yC|refine yD ?_ GE260.out|refine yD ?_ GE261.out)|exact HB.out))))
           have n4_:=Aside0.mk (Kd.V_lower (Kd.V_mono (ok':=fun k_=>((P0_0_ k_ ∨ P0_1_ k_) ∨ w.heap.size≤k_)∧k_≠gb260∧k_≠gb261) ho1 (fun k_ hk_=>⟨Or.elim hk_ (fun hs_=>Or.elim hs_ (fun hs_=>hs_.1) (fun hs_=>hs_.1)) (fun hn_=>(.inr (Nat.le_trans (yQ (by repeat (first|(with_reducible first|exact HB.out|apply yA|apply yB|apply yC|refine yD ?_ GE260.out|refine yD ?_ GE261.out)|exact HB.out))) hn_))),Or.elim hk_ (fun hs_=>Or.elim hs_ (fun hs_=>hs_.2.1) (fun hs_=>hs_.2.1)) (fun hn_=>(Kd.freshB (g:=gb260) (o:=.cells #[.slice A0_0 l0_0.length c0_0,.slice A0_1 l0_1.length c0_1] 41 (0,0)) (by (with_reducible repeat (first|refine yE ?_ _|refine yF ?_|refine yG ?_ _));exact BK260.out) k_ hn_)),Or.elim hk_ (fun hs_=>Or.elim hs_ (fun hs_=>hs_.2.2) (fun hs_=>hs_.2.2)) (fun hn_=>(Kd.freshB (g:=gb261) (o:=.cells #[.slice none 0 0,.slice none 0 0] 41 (0,0)) (by (with_reducible repeat (first|refine yE ?_ _|refine yF ?_|refine yG ?_ _));exact BK261.out) k_ hn_))⟩)) (yQ (by repeat (first|(with_reducible first|exact HB.out|apply yA|apply yB|apply yC|refine yD ?_ GE260.out|refine yD ?_ GE261.out)|exact HB.out))))
           have n5_:=Aside0.mk (blk_below (g:=gb260) (o:=.cells #[.slice A0_0 l0_0.length c0_0,.slice A0_1 l0_1.length c0_1] 41 (0,0)) (by (with_reducible repeat (first|refine yE ?_ _|refine yF ?_|refine yG ?_ _));exact BK260.out) hb)
           have n6_:=Aside0.mk (blk_below (g:=gb261) (o:=.cells #[.slice none 0 0,.slice none 0 0] 41 (0,0)) (by (with_reducible repeat (first|refine yE ?_ _|refine yF ?_|refine yG ?_ _));exact BK261.out) hb)
           have n7_:=Aside0.mk (yP (by repeat (first|(with_reducible first|exact HB.out|apply yA|apply yB|apply yC|refine yD ?_ GE260.out|refine yD ?_ GE261.out)|exact HB.out)) hb)
           clear HO_261000
           clear HO_261001
           clear HO293
           clear BK260
           clear BK261
           clear HB
           have HO_261000:=n0_
           have HO_261001:=n1_
           have HO293:=n2_
           have HO296:=n3_
           have HO299:=n4_
           have BK260:=n5_
           have BK261:=n6_
           have HB:=n7_
           clear n0_ n1_ n2_ n3_ n4_ n5_ n6_ n7_
           (try clear hb)
           (try clear hb2)
           (try clear hk)
           (try clear hi)
           (try clear ho0)
           (try clear ho1)
           obtain ⟨Ao23,co23,eo23⟩:=Kd.V_slice HO296.out
           (first|subst eo23|(injection eo23 with f1_ f2_ f3_;have f4_:=f1_.symm;have f5_:=f3_.symm;clear f1_ f2_ f3_;subst f4_;subst f5_))
           obtain ⟨Ao25,co25,eo25⟩:=Kd.V_slice HO299.out
           (first|subst eo25|(injection eo25 with f1_ f2_ f3_;have f4_:=f1_.symm;have f5_:=f3_.symm;clear f1_ f2_ f3_;subst f4_;subst f5_))
           refine hK.out _ _ ⟨(blk_cell BK260.out 0).trans rfl,(blk_cell BK260.out 1).trans rfl⟩ (fun hHeld=>?_)
           clear hK K
           refine norm_ (a':=?_) ?_ ?_
           rotate_left
           ·show Act.put _ (some 51) _=_
            simp only [Act.put,yK,yL,yM,i64_w,i32_w]
            rfl
           refine one_ (i:=8) (N:=none) #[true,true,true,true,true,true,true,true,true] rfl rfl (one_of HT_.out (by kernel_rfl)) (by decide) (fun K hK=>?_)
           have hs24:w22.cell? ⟨gb261,0,none⟩=some (.slice none 0 0):=(blk_cell BK261.out 0).trans rfl
           have hfs24:=blk_frozen BK261.out 0
           have hns24_0:=NB260_261.out
           have hms24_0:=NB261_260.out
           have hs26:w22.cell? ⟨gb261,1,none⟩=some (.slice none 0 0):=(blk_cell BK261.out 1).trans rfl
           have hfs26:=blk_frozen BK261.out 1
           have hns26_0:=NB260_261.out
           have hms26_0:=NB261_260.out
           refine skip_ (w1:=?_) (by rfl) rfl ?_ ?_
           rotate_left
           ·go_simp
            rfl
           refine hK.out _ _ ⟨((cell_far (p:=⟨gb261,_,none⟩) NB260_261.out _).trans (((cell_far (p:=⟨gb261,_,none⟩) NB260_261.out _).trans (hHeld.1)))),((cell_far (p:=⟨gb261,_,none⟩) NB260_261.out _).trans (((cell_far (p:=⟨gb261,_,none⟩) NB260_261.out _).trans (hHeld.2))))⟩ (fun hHeld=>?_)
           clear hK K
           refine done_ (done_of HT_.out (by kernel_rfl)) ?_
           try go_wp2
           refine bodyPost_ret (results_cell_row rfl _ _ gb261 41 #[.slice Ao23 t294.length co23,.slice Ao25 t297.length co25] (0,0) _ rfl (by (with_reducible repeat (first|refine yE ?_ _|refine yF ?_|refine yG ?_ _));refine blk_put (cs:=#[.slice Ao23 t294.length co23,.slice none 0 0]) ?_ 1 _ rfl;(with_reducible repeat (first|refine yE ?_ _|refine yF ?_|refine yG ?_ _));refine blk_put (cs:=#[.slice none 0 0,.slice none 0 0]) ?_ 0 _ rfl;(with_reducible repeat (first|refine yE ?_ _|refine yF ?_|refine yG ?_ _));exact BK261.out) Try.underlying41 rfl (by kernel_rfl)) rfl ?_
           exact ⟨_,_,by first|rfl|(simp [errW_none,errW_some]<;>rfl)|(simp [*,errW_none,errW_some]<;>rfl)|(simp [errW_none,errW_some];exact ⟨rfl,rfl⟩),by (with_reducible repeat (first|apply Kd.V_alloc|apply Kd.V_drewN|apply Kd.V_drew));exact Kd.V_mono (Kd.V_far (p:=⟨gb261,1,none⟩) (Kd.V_far (p:=⟨gb261,0,none⟩) (Kd.V_mono HO296.out (fun k_ hk=>(⟨hk,hk.2.2⟩:_∧k_≠gb261))) (fun _ hk=>hk.2) (.slice Ao23 t294.length co23)) (fun _ hk=>hk.2) (.slice Ao25 t297.length co25)) (fun _ hk=>hk.1.1),by (with_reducible repeat (first|apply Kd.V_alloc|apply Kd.V_drewN|apply Kd.V_drew));exact Kd.V_mono (Kd.V_far (p:=⟨gb261,1,none⟩) (Kd.V_far (p:=⟨gb261,0,none⟩) (Kd.V_mono HO299.out (fun k_ hk=>(⟨hk,hk.2.2⟩:_∧k_≠gb261))) (fun _ hk=>hk.2) (.slice Ao23 t294.length co23)) (fun _ hk=>hk.2) (.slice Ao25 t297.length co25)) (fun _ hk=>hk.1.1),by repeat (first|(with_reducible first|exact HB.out|apply yA|apply yB|apply yC|refine yD ?_ GE260.out|refine yD ?_ GE261.out)|exact HB.out)⟩
          ·rw [if_neg c18] at H
           exact absurd H (by simp)
         ·rw [if_neg c17] at H
          exact absurd H (by simp)
        ·replace c16:=Bool.eq_false_iff.mpr c16
         subst c16
         have H1:(spec_l1Less.l0 k2 (l0_1.length:Int) (wrap64 (x4_1+1)) l0_0 l0_1)=some (r1,r2):=by rw [if_neg (show ¬ (false=true) by decide)] at H;exact H
         clear H
         have H:=H1
         clear H1
         have H':=Aside0.mk H
         clear H
         go_wp2
         go_roundg k2
         case measure=>have:=HK1.out;have:=HK2.out;omega
         case rel=>exact ⟨(wrap64 (x4_1+1)),(by first|rfl|(simp;done)|(simp [*];done)|(simp [Int.tmod_eq_emod_of_nonneg];done)),H',⟨by have:=HK1.out;have:=HK2.out;omega⟩,⟨by (with_reducible repeat (first|apply Kd.V_alloc|apply Kd.V_drewN|apply Kd.V_drew));exact HO_261000.out⟩,⟨by (with_reducible repeat (first|apply Kd.V_alloc|apply Kd.V_drewN|apply Kd.V_drew));exact HO_261001.out⟩,⟨by (with_reducible repeat (first|refine yE ?_ _|refine yF ?_|refine yG ?_ _));exact BK260.out⟩,⟨by (with_reducible repeat (first|refine yE ?_ _|refine yF ?_|refine yG ?_ _));exact BK261.out⟩,⟨by repeat (first|(with_reducible first|exact HB.out|apply yA|apply yB|apply yC|refine yD ?_ GE260.out|refine yD ?_ GE261.out)|exact HB.out)⟩⟩
   ·rw [if_neg c6] at H
    have c6b0:decide (x4_1<(l0_1.length:Int))=false:=decide_eq_false c6
    clear c6
    by_cases c27:(l0_0.length:Int) > 0
    ·rw [if_pos c27] at H
     have c27b0:decide (0<(l0_0.length:Int))=true:=decide_eq_true c27
     have c27b1:decide (0<l0_0.length)=true:=decide_eq_true (by omega)
     clear c27
     obtain ⟨ji28,hji28⟩:∃ j_:Int,(wrap64 ((l0_0.length:Int) - 1))=j_:=⟨_,rfl⟩
     replace H:(if 0≤(ji28) then (if (ji28)<(l0_0.length:Int) then (if 0≤(wrap64 ((l0_1.length:Int) - 1)) then (if (wrap64 ((l0_1.length:Int) - 1))<(l0_1.length:Int) then (if ((rdOf false l0_0 (ji28)) == (rdOf false l0_1 (wrap64 ((l0_1.length:Int) - 1))))=true then ((some (([rdOf false l0_1 (wrap64 ((l0_1.length:Int) - 1))]:List Bool):List Bool)).bind fun y265=>(if (wrap64 ((l0_1.length:Int) - 1))≤(l0_1.length:Int) then ((some (l0_1.take ((wrap64 ((l0_1.length:Int) - 1)):Int).toNat:List Bool)).bind fun y268=>(if y265.length+y268.length<140737488355328 then (if (ji28)≤(l0_0.length:Int) then ((spec_l1Less.f k1 (l0_0.take ((ji28):Int).toNat) (y265++y268)).bind fun bt281=>(some (bt281.1,bt281.2))) else (none)) else (none))) else (none))) else (some (l0_0,l0_1))) else (none)) else (none)) else (none)) else (none))=some (r1,r2):=by first|(rw [hji28] at H;exact H)|(simp only [hji28] at H ⊢;exact H)
     have hji28w:(IntKind.i64.wrap ((l0_0.length:Int) - 1))=ji28:=(i64_w _).trans hji28
     by_cases c29:0≤(ji28)
     ·rw [if_pos c29] at H
      have c29b0:decide (0≤(ji28))=true:=decide_eq_true c29
      clear c29
      by_cases c30:(ji28)<(l0_0.length:Int)
      ·rw [if_pos c30] at H
       have c30b0:decide ((ji28)<(l0_0.length:Int))=true:=decide_eq_true c30
       clear c30
       obtain ⟨ji31,hji31⟩:∃ j_:Int,(wrap64 ((l0_1.length:Int) - 1))=j_:=⟨_,rfl⟩
       replace H:(if 0≤(ji31) then (if (ji31)<(l0_1.length:Int) then (if ((rdOf false l0_0 (ji28)) == (rdOf false l0_1 (ji31)))=true then ((some (([rdOf false l0_1 (ji31)]:List Bool):List Bool)).bind fun y265=>(if (ji31)≤(l0_1.length:Int) then ((some (l0_1.take ((ji31):Int).toNat:List Bool)).bind fun y268=>(if y265.length+y268.length<140737488355328 then (if (ji28)≤(l0_0.length:Int) then ((spec_l1Less.f k1 (l0_0.take ((ji28):Int).toNat) (y265++y268)).bind fun bt281=>(some (bt281.1,bt281.2))) else (none)) else (none))) else (none))) else (some (l0_0,l0_1))) else (none)) else (none))=some (r1,r2):=by first|(rw [hji31] at H;exact H)|(simp only [hji31] at H ⊢;exact H)
       have hji31w:(IntKind.i64.wrap ((l0_1.length:Int) - 1))=ji31:=(i64_w _).trans hji31
       by_cases c32:0≤(ji31)
       ·rw [if_pos c32] at H
        have c32b0:decide (0≤(ji31))=true:=decide_eq_true c32
        clear c32
        by_cases c33:(ji31)<(l0_1.length:Int)
        ·rw [if_pos c33] at H
         have c33b0:decide ((ji31)<(l0_1.length:Int))=true:=decide_eq_true c33
         clear c33
         by_cases c34:((rdOf false l0_0 (ji28)) == (rdOf false l0_1 (ji31)))=true
         ·rw [if_pos c34] at H
          have c34b0:((rdOf false l0_0 (ji28)) == (rdOf false l0_1 (ji31)))=true:=c34
          (try (have c34b1:decide ((rdOf false l0_0 (ji28))=(rdOf false l0_1 (ji31)))=true:=by simpa using c34))
          (try (have c34b2:((rdOf false l0_0 (ji28)) == (rdOf false l0_1 (ji31)))=true:=by simpa using c34))
          clear c34
          obtain ⟨y265,hy265⟩:∃ y_:List Bool,y_=(([rdOf false l0_1 (ji31)]:List Bool)):=⟨_,rfl⟩
          replace H:(if (ji31)≤(l0_1.length:Int) then ((some (l0_1.take ((ji31):Int).toNat:List Bool)).bind fun y268=>(if y265.length+y268.length<140737488355328 then (if (ji28)≤(l0_0.length:Int) then ((spec_l1Less.f k1 (l0_0.take ((ji28):Int).toNat) (y265++y268)).bind fun bt281=>(some (bt281.1,bt281.2))) else (none)) else (none))) else (none))=some (r1,r2):=by first|(rw [hy265];with_reducible exact H)|(have H2_:=(Option.bind_some _ _).symm.trans H;rw [hy265];with_reducible exact H2_)|(have H2_:=(Option.bind_some _ _).symm.trans H;with_reducible exact H2_)|with_reducible exact H|(rw [hy265];exact H)|exact H
          have Ny265:=Aside0.mk hy265
          clear hy265
          have c35b0:=eq_true (of_decide_eq_true (by first|(with_reducible assumption)|assumption):0≤(ji31))
          by_cases c36:(ji31)≤(l0_1.length:Int)
          ·rw [if_pos c36] at H
           have c36b0:=eq_true c36
           have c36b1:decide ((ji31)≤(l0_1.length:Int))=true:=decide_eq_true c36
           clear c36
           obtain ⟨y268,hy268⟩:∃ y_:List Bool,y_=(l0_1.take ((ji31):Int).toNat):=⟨_,rfl⟩
           replace H:(if y265.length+y268.length<140737488355328 then (if (ji28)≤(l0_0.length:Int) then ((spec_l1Less.f k1 (l0_0.take ((ji28):Int).toNat) (y265++y268)).bind fun bt281=>(some (bt281.1,bt281.2))) else (none)) else (none))=some (r1,r2):=by first|(rw [hy268];with_reducible exact H)|(have H2_:=(Option.bind_some _ _).symm.trans H;rw [hy268];with_reducible exact H2_)|(have H2_:=(Option.bind_some _ _).symm.trans H;with_reducible exact H2_)|with_reducible exact H|(rw [hy268];exact H)|exact H
           have Ny268:=Aside0.mk hy268
           clear hy268
           by_cases c37:y265.length+y268.length<140737488355328
           ·rw [if_pos c37] at H
            have LMc37:=Aside0.mk c37
            clear c37
            obtain ⟨y273,hy273⟩:∃ y_:List Bool,y_=(y265++y268):=⟨_,rfl⟩
            replace H:(if (ji28)≤(l0_0.length:Int) then ((spec_l1Less.f k1 (l0_0.take ((ji28):Int).toNat) y273).bind fun bt281=>(some (bt281.1,bt281.2))) else (none))=some (r1,r2):=by first|(rw [hy273];with_reducible exact H)|(have H2_:=(Option.bind_some _ _).symm.trans H;rw [hy273];with_reducible exact H2_)|(have H2_:=(Option.bind_some _ _).symm.trans H;with_reducible exact H2_)|with_reducible exact H|(rw [hy273];exact H)|exact H
            have Ny273:=Aside0.mk hy273
            clear hy273
            have c38b0:=eq_true (of_decide_eq_true (by first|(with_reducible assumption)|assumption):0≤(ji28))
            by_cases c39:(ji28)≤(l0_0.length:Int)
            ·rw [if_pos c39] at H
             have c39b0:=eq_true c39
             have c39b1:decide ((ji28)≤(l0_0.length:Int))=true:=decide_eq_true c39
             clear c39
             obtain ⟨y276,hy276⟩:∃ y_:List Bool,y_=(l0_0.take ((ji28):Int).toNat):=⟨_,rfl⟩
             replace H:((spec_l1Less.f k1 y276 y273).bind fun bt281=>(some (bt281.1,bt281.2)))=some (r1,r2):=by first|(rw [hy276];with_reducible exact H)|(have H2_:=(Option.bind_some _ _).symm.trans H;rw [hy276];with_reducible exact H2_)|(have H2_:=(Option.bind_some _ _).symm.trans H;with_reducible exact H2_)|with_reducible exact H|(rw [hy276];exact H)|exact H
             have Ny276:=Aside0.mk hy276
             clear hy276
             replace H:=Option.bind_eq_some_iff.mp H
             obtain ⟨⟨t281,t284⟩,A400,H⟩:=H
             replace H:(some (t281,t284))=some (r1,r2):=H
             have A40:=Aside0.mk A400
             clear A400
             simp only [Option.some.injEq,Prod.mk.injEq] at H
             obtain ⟨rfl,rfl⟩:=H
             have hnb41:=NB260_261.out
             have hnc41:=NB261_260.out
             have hcz42_0:wr.cell? ⟨gb260,0,none⟩=some (.slice A0_0 l0_0.length c0_0):=(blk_cell BK260.out 0).trans rfl
             have hcz42_1:wr.cell? ⟨gb260,1,none⟩=some (.slice A0_1 l0_1.length c0_1):=(blk_cell BK260.out 1).trans rfl
             have hfz42_0:=blk_frozen BK260.out 0
             have hfz42_1:=blk_frozen BK260.out 1
             try go_wp2
             have n0_:=Aside0.mk (Kd.V_drew HO_261000.out)
             have n1_:=Aside0.mk (Kd.V_drew HO_261001.out)
             have n2_:=Aside0.mk (yF BK260.out)
             have n3_:=Aside0.mk (yF BK261.out)
             have n4_:=Aside0.mk (yC HB.out)
             clear HO_261000
             clear HO_261001
             clear BK260
             clear BK261
             clear HB
             have HO_261000:=n0_
             have HO_261001:=n1_
             have BK260:=n2_
             have BK261:=n3_
             have HB:=n4_
             clear n0_ n1_ n2_ n3_ n4_
             have p262:0≤((ji28):Int):=of_decide_eq_true (by first|(with_reducible assumption)|assumption)
             have q262:(ji28)<(l0_0.length:Int):=of_decide_eq_true (by first|(with_reducible assumption)|assumption)
             obtain ⟨ad262,e262,hx262_0⟩:=Kd.at_bool (Kd.V_reads' HO_261000.out).2.2 (ji28) p262 q262
             cases e262
             replace p262:=eq_true p262
             replace q262:=eq_true q262
             have p263:0≤((ji31):Int):=of_decide_eq_true (by first|(with_reducible assumption)|assumption)
             have q263:(ji31)<(l0_1.length:Int):=of_decide_eq_true (by first|(with_reducible assumption)|assumption)
             obtain ⟨ad263,e263,hx263_0⟩:=Kd.at_bool (Kd.V_reads' HO_261001.out).2.2 (ji31) p263 q263
             cases e263
             replace p263:=eq_true p263
             replace q263:=eq_true q263
             refine start_ (n:=17) (S:=fun w'=>w'.cell? ⟨gb260,0,none⟩=some (.slice (some ad262) l0_0.length c0_0)∧w'.cell? ⟨gb260,1,none⟩=some (.slice (some ad263) l0_1.length c0_1)∧w'.cell? (ad262.add ((ji28)).toNat)=some (.bool (rdOf false l0_0 (ji28)))∧w'.cell? (ad263.add ((ji31)).toNat)=some (.bool (rdOf false l0_1 (ji31)))) (ds:=[]) #[false,false,false,false,false,false,false,false,false,false,false,false,false,false,false,false,false] (by kernel_rfl) rfl rfl ⟨(blk_cell BK260.out 0).trans rfl,(blk_cell BK260.out 1).trans rfl,hx262_0,hx263_0⟩ (fun hHeld=>?_);refine with_tabW spec_l1Less.tab13 spec_l1Less.bits13 (fun HT_ HW_=>?_)
             generalize wr.drew=w43 at HO_261000 HO_261001 BK260 BK261 HB hx262_0 hx263_0 hHeld ⊢
             refine pure_ (i:=0) (N:=some 55) (v:=?_) (a':=?_) #[true,false,false,false,false,false,false,false,false,false,false,false,false,false,false,false,false] rfl rfl (any_of HT_.out (by kernel_rfl)) (fun _ _ _ h=>h) (Or.inl ⟨by rfl,?_⟩) ?_ ?_
             rotate_left
             ·intro w'
              go_simp
              with_reducible rfl
             rotate_left
             ·simp only [Act.put,yK,yL,yM,i64_w,i32_w]
              rfl
             refine pure_ (i:=1) (N:=some 56) (v:=?_) (a':=?_) #[true,true,false,false,false,false,false,false,false,false,false,false,false,false,false,false,false] rfl rfl (any_of HT_.out (by kernel_rfl)) (fun _ _ _ h=>h) (Or.inl ⟨by rfl,?_⟩) ?_ ?_
             rotate_left
             ·intro w'
              go_simp
              with_reducible rfl
             rotate_left
             ·simp only [Act.put,yK,yL,yM,i64_w,i32_w]
              rfl
             refine pure_ (i:=2) (N:=some 57) (v:=?_) (a':=?_) #[true,true,true,false,false,false,false,false,false,false,false,false,false,false,false,false,false] rfl rfl (any_of HT_.out (by kernel_rfl)) (fun _ _ _ h=>h) (Or.inl ⟨by rfl,?_⟩) ?_ ?_
             rotate_left
             ·intro w'
              go_simp
              with_reducible rfl
             rotate_left
             ·simp only [Act.put,yK,yL,yM,i64_w,i32_w]
              rfl
             refine pure_ (i:=3) (N:=some 58) (v:=?_) (a':=?_) #[true,true,true,true,false,false,false,false,false,false,false,false,false,false,false,false,false] rfl rfl (any_of HT_.out (by kernel_rfl)) (fun _ _ _ h=>h) (Or.inl ⟨by rfl,?_⟩) ?_ ?_
             rotate_left
             ·intro w'
              go_simp
              with_reducible rfl
             rotate_left
             ·simp only [Act.put,yK,yL,yM,i64_w,i32_w]
              rfl
             refine pure_ (i:=5) (N:=some 60) (v:=?_) (a':=?_) #[true,true,true,true,false,true,false,false,false,false,false,false,false,false,false,false,false] rfl rfl (any_of HT_.out (by kernel_rfl)) (fun _ _ _ h=>h) (Or.inl ⟨by rfl,?_⟩) ?_ ?_
             rotate_left
             ·intro w'
              go_simp
              with_reducible rfl
             rotate_left
             ·simp only [Act.put,yK,yL,yM,i64_w,i32_w]
              rfl
             refine pure_ (i:=6) (N:=some 61) (v:=?_) (a':=?_) #[true,true,true,true,false,true,true,false,false,false,false,false,false,false,false,false,false] rfl rfl (any_of HT_.out (by kernel_rfl)) (fun _ _ _ h=>h) (Or.inl ⟨by rfl,?_⟩) ?_ ?_
             rotate_left
             ·intro w'
              go_simp
              with_reducible rfl
             rotate_left
             ·simp only [Act.put,yK,yL,yM,i64_w,i32_w]
              rfl
             refine pure_ (i:=9) (N:=some 64) (v:=?_) (a':=?_) #[true,true,true,true,false,true,true,false,false,true,false,false,false,false,false,false,false] rfl rfl (any_of HT_.out (by kernel_rfl)) (fun _ _ _ h=>h) (Or.inl ⟨by rfl,?_⟩) ?_ ?_
             rotate_left
             ·intro w'
              go_simp
              with_reducible rfl
             rotate_left
             ·simp only [Act.put,yK,yL,yM,i64_w,i32_w]
              rfl
             refine pure_ (i:=11) (N:=some 66) (v:=?_) (a':=?_) #[true,true,true,true,false,true,true,false,false,true,false,true,false,false,false,false,false] rfl rfl (any_of HT_.out (by kernel_rfl)) (fun _ _ _ h=>h) (Or.inl ⟨by rfl,?_⟩) ?_ ?_
             rotate_left
             ·intro w'
              go_simp
              with_reducible rfl
             rotate_left
             ·simp only [Act.put,yK,yL,yM,i64_w,i32_w]
              rfl
             refine pure_ (i:=12) (N:=some 67) (v:=?_) (a':=?_) #[true,true,true,true,false,true,true,false,false,true,false,true,true,false,false,false,false] rfl rfl (any_of HT_.out (by kernel_rfl)) (fun _ _ _ h=>h) (Or.inl ⟨by rfl,?_⟩) ?_ ?_
             rotate_left
             ·intro w'
              go_simp
              with_reducible rfl
             rotate_left
             ·simp only [Act.put,yK,yL,yM,i64_w,i32_w]
              rfl
             refine take_ (i:=4) (N:=some 59) (v:=?_) (a':=?_) #[true,true,true,true,true,true,true,false,false,true,false,true,true,false,false,false,false] rfl rfl (take_ofW HT_.out HW_.out (by kernel_rfl)) (fun _ _ _ h=>h) (Or.inl ⟨by rfl,?_⟩) hHeld ?_ ?_
             rotate_left
             ·rintro w' ⟨s0,s1,s2,s3⟩
              go_simp
              with_reducible rfl
             rotate_left
             ·simp only [Act.put,yK,yL,yM,i64_w,i32_w]
              rfl
             refine pure_ (i:=7) (N:=some 62) (v:=?_) (a':=?_) #[true,true,true,true,true,true,true,true,false,true,false,true,true,false,false,false,false] rfl rfl (any_of HT_.out (by kernel_rfl)) (fun _ _ _ h=>h) (Or.inl ⟨by rfl,?_⟩) ?_ ?_
             rotate_left
             ·intro w'
              go_simp
              with_reducible rfl
             rotate_left
             ·simp only [Act.put,yK,yL,yM,i64_w,i32_w]
              rfl
             refine take_ (i:=8) (N:=some 63) (v:=?_) (a':=?_) #[true,true,true,true,true,true,true,true,true,true,false,true,true,false,false,false,false] rfl rfl (take_ofW HT_.out HW_.out (by kernel_rfl)) (fun _ _ _ h=>h) (Or.inl ⟨by rfl,?_⟩) hHeld ?_ ?_
             rotate_left
             ·rintro w' ⟨s0,s1,s2,s3⟩
              go_simp
              with_reducible rfl
             rotate_left
             ·simp only [Act.put,yK,yL,yM,i64_w,i32_w]
              rfl
             refine take_ (i:=10) (N:=some 65) (v:=?_) (a':=?_) #[true,true,true,true,true,true,true,true,true,true,true,true,true,false,false,false,false] rfl rfl (take_ofW HT_.out HW_.out (by kernel_rfl)) (fun _ _ _ h=>h) (Or.inl ⟨by rfl,?_⟩) hHeld ?_ ?_
             rotate_left
             ·rintro w' ⟨s0,s1,s2,s3⟩
              go_simp
              with_reducible rfl
             rotate_left
             ·simp only [Act.put,yK,yL,yM,i64_w,i32_w]
              rfl
             refine pure_ (i:=13) (N:=some 68) (v:=?_) (a':=?_) #[true,true,true,true,true,true,true,true,true,true,true,true,true,true,false,false,false] rfl rfl (any_of HT_.out (by kernel_rfl)) (fun _ _ _ h=>h) (Or.inl ⟨by rfl,?_⟩) ?_ ?_
             rotate_left
             ·intro w'
              go_simp
              with_reducible rfl
             rotate_left
             ·simp only [Act.put,yK,yL,yM,i64_w,i32_w]
              rfl
             refine take_ (i:=14) (N:=some 69) (v:=?_) (a':=?_) #[true,true,true,true,true,true,true,true,true,true,true,true,true,true,true,false,false] rfl rfl (take_ofW HT_.out HW_.out (by kernel_rfl)) (fun _ _ _ h=>h) (Or.inl ⟨by rfl,?_⟩) hHeld ?_ ?_
             rotate_left
             ·rintro w' ⟨s0,s1,s2,s3⟩
              go_simp
              with_reducible rfl
             rotate_left
             ·simp only [Act.put,yK,yL,yM,i64_w,i32_w]
              rfl
             refine pure_ (i:=15) (N:=some 70) (v:=?_) (a':=?_) #[true,true,true,true,true,true,true,true,true,true,true,true,true,true,true,true,false] rfl rfl (any_of HT_.out (by kernel_rfl)) (fun _ _ _ h=>h) (Or.inl ⟨by rfl,?_⟩) ?_ ?_
             rotate_left
             ·intro w'
              go_simp
              with_reducible rfl
             rotate_left
             ·simp only [Act.put,yK,yL,yM,i64_w,i32_w]
              rfl
             refine pure_ (i:=16) (N:=some 71) (v:=?_) (a':=?_) #[true,true,true,true,true,true,true,true,true,true,true,true,true,true,true,true,true] rfl rfl (any_of HT_.out (by kernel_rfl)) (fun _ _ _ h=>h) (Or.inl ⟨by rfl,?_⟩) ?_ ?_
             rotate_left
             ·intro w'
              go_simp
              with_reducible rfl
             rotate_left
             ·simp only [Act.put,yK,yL,yM,i64_w,i32_w]
              rfl
             refine done_ (done_of HT_.out (by kernel_rfl)) ?_
             try go_wp2
             have n0_:=Aside0.mk (Kd.V_drew HO_261000.out)
             have n1_:=Aside0.mk (Kd.V_drew HO_261001.out)
             have n2_:=Aside0.mk (yF BK260.out)
             have n3_:=Aside0.mk (yF BK261.out)
             have n4_:=Aside0.mk (yC HB.out)
             clear HO_261000
             clear HO_261001
             clear BK260
             clear BK261
             clear HB
             have HO_261000:=n0_
             have HO_261001:=n1_
             have BK260:=n2_
             have BK261:=n3_
             have HB:=n4_
             clear n0_ n1_ n2_ n3_ n4_
             have p264:0≤((ji31):Int):=of_decide_eq_true (by first|(with_reducible assumption)|assumption)
             have q264:(ji31)<(l0_1.length:Int):=of_decide_eq_true (by first|(with_reducible assumption)|assumption)
             obtain ⟨ad264,e264,hx264_0⟩:=Kd.at_bool (Kd.V_reads' HO_261001.out).2.2 (ji31) p264 q264
             obtain rfl:ad263=ad264:=(by injection e264)
             replace p264:=eq_true p264
             replace q264:=eq_true q264
             have q45:((ji31):Int)≤((l0_1.length:Int):Int):=of_decide_eq_true (by first|(with_reducible assumption)|assumption)
             obtain ⟨i045,hi045,_,hsz45,_⟩:=info_parts info4
             have hroom45:l0_1.length≤c0_1:=(Kd.V_reads' HO_261001.out).2.1
             have hC45:Kd.F Kd.bool _ _ (some ad263) l0_1.length l0_1:=(Kd.V_at (base:=w.heap.size) HO_261001.out).2.2
             have hcut45:=cut_to (P:=Try.prog) 31 4 .i64 Try.underlying31 hi045 (some ad263) l0_1.length c0_1 (ji31) (of_decide_eq_true (by first|(with_reducible assumption)|assumption)) q45 hroom45
             have hr45:=Kd.F_take (m:=((ji31):Int).toNat) hC45 (by omega)
             have hy45:y268.length=((ji31):Int).toNat:=(by rw [Ny268.out,List.length_take];omega)
             rw [← Ny268.out] at hr45
             rw [← hy45] at hcut45
             have HO272:=Aside0.mk (show Kd.V Kd.bool 4 _ w.heap.size _ (.slice (some ad263) y268.length c0_1) y268 from Kd.V_mk (by omega) hr45)
             have HC272:=Aside0.mk (show y268.length≤c0_1 from by omega)
             clear hr45 hC45 hroom45 hi045 hsz45
             have KY45:=Aside0.mk hy45
             clear hy45
             replace q45:=eq_true q45
             refine start_ (n:=14) (S:=fun w'=>w'.cell? ⟨gb260,0,none⟩=some (.slice (some ad262) l0_0.length c0_0)∧w'.cell? ⟨gb260,1,none⟩=some (.slice (some ad263) l0_1.length c0_1)∧w'.cell? (ad263.add ((ji31)).toNat)=some (.bool (rdOf false l0_1 (ji31)))) (ds:=[12]) #[false,false,false,false,false,false,false,false,false,false,false,false,false,false] (by kernel_rfl) rfl rfl ⟨(blk_cell BK260.out 0).trans rfl,(blk_cell BK260.out 1).trans rfl,hx264_0⟩ (fun hHeld=>?_);refine with_tabW spec_l1Less.tab14 spec_l1Less.bits14 (fun HT_ HW_=>?_)
             generalize w43.drew=w44 at HO_261000 HO_261001 BK260 BK261 HB HO272 hx264_0 hHeld ⊢
             refine pure_ (i:=0) (N:=some 72) (v:=?_) (a':=?_) #[true,false,false,false,false,false,false,false,false,false,false,false,false,false] rfl rfl (any_of HT_.out (by kernel_rfl)) (fun _ _ _ h=>h) (Or.inl ⟨by rfl,?_⟩) ?_ ?_
             rotate_left
             ·intro w'
              go_simp
              with_reducible rfl
             rotate_left
             ·simp only [Act.put,yK,yL,yM,i64_w,i32_w]
              rfl
             refine pure_ (i:=2) (N:=some 74) (v:=?_) (a':=?_) #[true,false,true,false,false,false,false,false,false,false,false,false,false,false] rfl rfl (any_of HT_.out (by kernel_rfl)) (fun _ _ _ h=>h) (Or.inl ⟨by rfl,?_⟩) ?_ ?_
             rotate_left
             ·intro w'
              go_simp
              with_reducible rfl
             rotate_left
             ·simp only [Act.put,yK,yL,yM,i64_w,i32_w]
              rfl
             refine pure_ (i:=3) (N:=some 75) (v:=?_) (a':=?_) #[true,false,true,true,false,false,false,false,false,false,false,false,false,false] rfl rfl (any_of HT_.out (by kernel_rfl)) (fun _ _ _ h=>h) (Or.inl ⟨by rfl,?_⟩) ?_ ?_
             rotate_left
             ·intro w'
              go_simp
              with_reducible rfl
             rotate_left
             ·simp only [Act.put,yK,yL,yM,i64_w,i32_w]
              rfl
             refine pure_ (i:=7) (N:=some 79) (v:=?_) (a':=?_) #[true,false,true,true,false,false,false,true,false,false,false,false,false,false] rfl rfl (any_of HT_.out (by kernel_rfl)) (fun _ _ _ h=>h) (Or.inl ⟨by rfl,?_⟩) ?_ ?_
             rotate_left
             ·intro w'
              go_simp
              with_reducible rfl
             rotate_left
             ·simp only [Act.put,yK,yL,yM,i64_w,i32_w]
              rfl
             refine pure_ (i:=9) (N:=some 81) (v:=?_) (a':=?_) #[true,false,true,true,false,false,false,true,false,true,false,false,false,false] rfl rfl (any_of HT_.out (by kernel_rfl)) (fun _ _ _ h=>h) (Or.inl ⟨by rfl,?_⟩) ?_ ?_
             rotate_left
             ·intro w'
              go_simp
              with_reducible rfl
             rotate_left
             ·simp only [Act.put,yK,yL,yM,i64_w,i32_w]
              rfl
             refine pure_ (i:=10) (N:=some 82) (v:=?_) (a':=?_) #[true,false,true,true,false,false,false,true,false,true,true,false,false,false] rfl rfl (any_of HT_.out (by kernel_rfl)) (fun _ _ _ h=>h) (Or.inl ⟨by rfl,?_⟩) ?_ ?_
             rotate_left
             ·intro w'
              go_simp
              with_reducible rfl
             rotate_left
             ·simp only [Act.put,yK,yL,yM,i64_w,i32_w]
              rfl
             refine take_ (i:=1) (N:=some 73) (v:=?_) (a':=?_) #[true,true,true,true,false,false,false,true,false,true,true,false,false,false] rfl rfl (take_ofW HT_.out HW_.out (by kernel_rfl)) (fun _ _ _ h=>h) (Or.inl ⟨by rfl,?_⟩) hHeld ?_ ?_
             rotate_left
             ·rintro w' ⟨s0,s1,s2⟩
              go_simp
              with_reducible rfl
             rotate_left
             ·simp only [Act.put,yK,yL,yM,i64_w,i32_w]
              rfl
             refine pure_ (i:=4) (N:=some 76) (v:=?_) (a':=?_) #[true,true,true,true,true,false,false,true,false,true,true,false,false,false] rfl rfl (any_of HT_.out (by kernel_rfl)) (fun _ _ _ h=>h) (Or.inl ⟨by rfl,?_⟩) ?_ ?_
             rotate_left
             ·intro w'
              go_simp
              with_reducible rfl
             rotate_left
             ·simp only [Act.put,yK,yL,yM,i64_w,i32_w]
              rfl
             refine take_ (i:=5) (N:=some 77) (v:=?_) (a':=?_) #[true,true,true,true,true,true,false,true,false,true,true,false,false,false] rfl rfl (take_ofW HT_.out HW_.out (by kernel_rfl)) (fun _ _ _ h=>h) (Or.inl ⟨by rfl,?_⟩) hHeld ?_ ?_
             rotate_left
             ·rintro w' ⟨s0,s1,s2⟩
              go_simp
              with_reducible rfl
             rotate_left
             ·simp only [Act.put,yK,yL,yM,i64_w,i32_w]
              rfl
             refine take_ (i:=8) (N:=some 80) (v:=?_) (a':=?_) #[true,true,true,true,true,true,false,true,true,true,true,false,false,false] rfl rfl (take_ofW HT_.out HW_.out (by kernel_rfl)) (fun _ _ _ h=>h) (Or.inl ⟨by rfl,?_⟩) hHeld ?_ ?_
             rotate_left
             ·rintro w' ⟨s0,s1,s2⟩
              go_simp
              with_reducible rfl
             rotate_left
             ·simp only [Act.put,yK,yL,yM,i64_w,i32_w]
              rfl
             refine pure_ (i:=11) (N:=some 83) (v:=?_) (a':=?_) #[true,true,true,true,true,true,false,true,true,true,true,true,false,false] rfl rfl (any_of HT_.out (by kernel_rfl)) (fun _ _ _ h=>h) (Or.inl ⟨by rfl,?_⟩) ?_ ?_
             rotate_left
             ·intro w'
              go_simp
              with_reducible rfl
             rotate_left
             ·simp only [Act.put,yK,yL,yM,i64_w,i32_w]
              rfl
             refine one_ (i:=6) (N:=some 78) #[true,true,true,true,true,true,true,true,true,true,true,true,false,false] rfl rfl (one_of HT_.out (by kernel_rfl)) (by decide) (fun K hK=>?_)
             refine Kd.R_lit_step Kd.bool _ 4 ?hg (N:=78) ?hd (xs:=([rdOf false l0_1 (ji31)]:List Bool)) (inner:=[.bool (rdOf false l0_1 (ji31))]) (ok:=fun _=>True) (okp:=fun _=>True) ?hr ?hp (fun _ hk=>hk) trivial (Below.refl _ _) (Nat.le_refl _) (by simp) ?_;(case hd=>rfl);(case hg=>rfl);(case hr=>first|(go_simp;done)|(go_simp;rfl));(case hp=>exact (Reps.one (show Kd.M Kd.bool _ _ _ (rdOf false l0_1 (ji31)) [.bool (rdOf false l0_1 (ji31))] from rfl) (Reps.none _ _)))
             intro v266 w46 ho47 hb hg_ hnew_
             have HS2_:=(hb.cell (World.block_lt_of_cell? _ _ (hHeld.2.2))).trans (hHeld.2.2)
             clear hg_ hnew_
             (first|rw [← Ny265.out] at ho47|(simp only [Int.reduceToNat] at ho47;rw [← Ny265.out] at ho47))
             have n0_:=Aside0.mk (Kd.V_elder' (by (with_reducible repeat (first|apply Kd.V_alloc|apply Kd.V_drewN|apply Kd.V_drew));exact HO_261000.out) (Kd.R_base ho47) hb)
             have n1_:=Aside0.mk (Kd.V_elder' (by (with_reducible repeat (first|apply Kd.V_alloc|apply Kd.V_drewN|apply Kd.V_drew));exact HO_261001.out) (Kd.R_base ho47) hb)
             have n2_:=Aside0.mk (Kd.V_elder' (by (with_reducible repeat (first|apply Kd.V_alloc|apply Kd.V_drewN|apply Kd.V_drew));exact HO272.out) (Kd.R_base ho47) hb)
             have n3_:=Aside0.mk (Kd.R_lower (Kd.R_newM (M:=fun k_=>(w.heap.size≤k_)) ho47 (yQ (by repeat (first|(with_reducible first|exact HB.out|apply yA|apply yB|apply yC|refine yD ?_ GE260.out|refine yD ?_ GE261.out)|exact HB.out))) (fun k_ h_=>h_)) (yQ (by repeat (first|(with_reducible first|exact HB.out|apply yA|apply yB|apply yC|refine yD ?_ GE260.out|refine yD ?_ GE261.out)|exact HB.out))))
             have n4_:=Aside0.mk (blk_below (g:=gb260) (o:=.cells #[.slice (some ad262) l0_0.length c0_0,.slice (some ad263) l0_1.length c0_1] 41 (0,0)) (by (with_reducible repeat (first|refine yE ?_ _|refine yF ?_|refine yG ?_ _));exact BK260.out) hb)
             have n5_:=Aside0.mk (blk_below (g:=gb261) (o:=.cells #[.slice none 0 0,.slice none 0 0] 41 (0,0)) (by (with_reducible repeat (first|refine yE ?_ _|refine yF ?_|refine yG ?_ _));exact BK261.out) hb)
             have n6_:=Aside0.mk (yP (by repeat (first|(with_reducible first|exact HB.out|apply yA|apply yB|apply yC|refine yD ?_ GE260.out|refine yD ?_ GE261.out)|exact HB.out)) hb)
             clear HO_261000
             clear HO_261001
             clear HO272
             clear BK260
             clear BK261
             clear HB
             have HO_261000:=n0_
             have HO_261001:=n1_
             have HO272:=n2_
             have HO267:=n3_
             have BK260:=n4_
             have BK261:=n5_
             have HB:=n6_
             clear n0_ n1_ n2_ n3_ n4_ n5_ n6_
             clear hb ho47
             refine hK.out _ _ ⟨(blk_cell BK260.out 0).trans rfl,(blk_cell BK260.out 1).trans rfl,HS2_⟩ (fun hHeld=>?_)
             clear hK K
             refine norm_ (a':=?_) ?_ ?_
             rotate_left
             ·show Act.put _ (some 78) _=_
              simp only [Act.put,yK,yL,yM,i64_w,i32_w]
              rfl
             refine last_ (i:=12) (N:=some 84) #[true,true,true,true,true,true,true,true,true,true,true,true,true,false] rfl rfl (one_of HT_.out (by kernel_rfl)) (by decide) (fun K hK=>?_)
             refine Kd.R_append_rows_step Kd.bool (w0:=w) w.heap.size (by rfl) (.tmp 78) (.tmp 83) 31 4 (.bool false) 1 rfl Try.underlying31 info4 rfl (by decide) (by omega) v266 y265 y268 _ _ _ (fun k_=>(w.heap.size≤k_)) (fun _=>False) rfl rfl ?aO ?aR (fun _ _ h=>h) (fun _ h=>h.elim) ?aF ?aB ?aS ?aL ?_
             (case aR=>repeat (first|exact (Kd.V_reads' HO272.out).2.2|(with_reducible refine Kd.C_alloc ?_ _)|(with_reducible refine Kd.C_drewN ?_ _)|(with_reducible refine Kd.C_drew ?_)))
             (case aB=>exact (by repeat (first|(with_reducible first|exact HB.out|apply yA|apply yB|apply yC|refine yD ?_ GE260.out|refine yD ?_ GE261.out)|exact HB.out)))
             (case aF=>exact (fun k_ hk=>(Nat.le_trans (yQ (by repeat (first|(with_reducible first|exact HB.out|apply yA|apply yB|apply yC|refine yD ?_ GE260.out|refine yD ?_ GE261.out)|exact HB.out))) hk)))
             (case aO=>exact (by (with_reducible repeat (first|apply yH|apply yI|apply yJ));exact Kd.R_mono HO267.out (fun _ hk=>hk.1)))
             (case aS=>exact (yQ (by repeat (first|(with_reducible first|exact HB.out|apply yA|apply yB|apply yC|refine yD ?_ GE260.out|refine yD ?_ GE261.out)|exact HB.out))))
             (case aL=>have:=LMc37.out;omega)
             intro v274 w48 ho hb hg hat
             rw [← Ny273.out] at ho
             have n0_:=Aside0.mk (Kd.V_afterv (ok:=(fun k_=>((P0_0_ k_ ∨ P0_1_ k_) ∨ w.heap.size≤k_)∧k_≠gb260∧k_≠gb261)) (by (with_reducible repeat (first|apply Kd.V_alloc|apply Kd.V_drewN|apply Kd.V_drew));exact HO_261000.out) hg hat)
             have n1_:=Aside0.mk (Kd.V_afterv (ok:=(fun k_=>((P0_0_ k_ ∨ P0_1_ k_) ∨ w.heap.size≤k_)∧k_≠gb260∧k_≠gb261)) (by (with_reducible repeat (first|apply Kd.V_alloc|apply Kd.V_drewN|apply Kd.V_drew));exact HO_261001.out) hg hat)
             have n2_:=Aside0.mk (blk_grown (g:=gb260) (o:=.cells #[.slice (some ad262) l0_0.length c0_0,.slice (some ad263) l0_1.length c0_1] 41 (0,0)) (by (with_reducible repeat (first|refine yE ?_ _|refine yF ?_|refine yG ?_ _));exact BK260.out) hg (Kd.R_ne HO267.out BK260.out (by decide)))
             have n3_:=Aside0.mk (blk_grown (g:=gb261) (o:=.cells #[.slice none 0 0,.slice none 0 0] 41 (0,0)) (by (with_reducible repeat (first|refine yE ?_ _|refine yF ?_|refine yG ?_ _));exact BK261.out) hg (Kd.R_ne HO267.out BK261.out (by decide)))
             have n4_:=Aside0.mk (Kd.V_afterv (ok:=(fun k_=>((P0_0_ k_ ∨ P0_1_ k_) ∨ w.heap.size≤k_)∧k_≠gb260∧k_≠gb261)) (by (with_reducible repeat (first|apply Kd.V_alloc|apply Kd.V_drewN|apply Kd.V_drew));exact HO272.out) hg hat)
             have n5_:=Aside0.mk (hb)
             have n6_:=Aside0.mk (ho)
             clear HO_261000
             clear HO_261001
             clear BK260
             clear BK261
             clear HO272
             clear HB
             clear HO267
             have HO_261000:=n0_
             have HO_261001:=n1_
             have BK260:=n2_
             have BK261:=n3_
             have HO272:=n4_
             have HB:=n5_
             have HO275:=n6_
             clear n0_ n1_ n2_ n3_ n4_ n5_ n6_
             clear ho hb hg hat
             refine hK.out _ _ ?_
             clear hK K
             refine norm_ (a':=?_) ?_ ?_
             rotate_left
             ·show Act.put _ (some 84) _=_
              simp only [Act.put,yK,yL,yM,i64_w,i32_w]
              rfl
             refine pure_ (i:=13) (N:=some 8) (v:=?_) (a':=?_) #[true,true,true,true,true,true,true,true,true,true,true,true,true,true] rfl rfl (any_of HT_.out (by kernel_rfl)) (fun _ _ _ h=>h) (Or.inl ⟨by rfl,?_⟩) ?_ ?_
             rotate_left
             ·intro w'
              go_simp
              with_reducible rfl
             rotate_left
             ·simp only [Act.put,yK,yL,yM,i64_w,i32_w]
              rfl
             refine done_ (done_of HT_.out (by kernel_rfl)) ?_
             have hcz49_0:w48.cell? ⟨gb260,0,none⟩=some (.slice (some ad262) l0_0.length c0_0):=(blk_cell BK260.out 0).trans rfl
             have hcz49_1:w48.cell? ⟨gb260,1,none⟩=some (.slice (some ad263) l0_1.length c0_1):=(blk_cell BK260.out 1).trans rfl
             have hfz49_0:=blk_frozen BK260.out 0
             have hfz49_1:=blk_frozen BK260.out 1
             have q50:((ji28):Int)≤((l0_0.length:Int):Int):=of_decide_eq_true (by first|(with_reducible assumption)|assumption)
             obtain ⟨i050,hi050,_,hsz50,_⟩:=info_parts info4
             have hroom50:l0_0.length≤c0_0:=(Kd.V_reads' HO_261000.out).2.1
             have hC50:Kd.F Kd.bool _ _ (some ad262) l0_0.length l0_0:=(Kd.V_at (base:=w.heap.size) HO_261000.out).2.2
             have hcut50:=cut_to (P:=Try.prog) 31 4 .i64 Try.underlying31 hi050 (some ad262) l0_0.length c0_0 (ji28) (of_decide_eq_true (by first|(with_reducible assumption)|assumption)) q50 hroom50
             have hr50:=Kd.F_take (m:=((ji28):Int).toNat) hC50 (by omega)
             have hy50:y276.length=((ji28):Int).toNat:=(by rw [Ny276.out,List.length_take];omega)
             rw [← Ny276.out] at hr50
             rw [← hy50] at hcut50
             have HO280:=Aside0.mk (show Kd.V Kd.bool 4 _ w.heap.size _ (.slice (some ad262) y276.length c0_0) y276 from Kd.V_mk (by omega) hr50)
             have HC280:=Aside0.mk (show y276.length≤c0_0 from by omega)
             clear hr50 hC50 hroom50 hi050 hsz50
             have KY50:=Aside0.mk hy50
             clear hy50
             replace q50:=eq_true q50
             obtain ⟨Ao51,co51,eo51⟩:=Kd.R_slice HO275.out
             subst eo51
             try go_wp2_with (first|((with_reducible refine gate_callee (f:=23) rfl ?_);refine goesL_ (some 92) rfl rfl Try.func23 (by kernel_rfl) rfl #[.agg #[.slice (some ad262) y276.length c0_0,.slice Ao51 y273.length co51]] rfl (by (try simp only [List.map_toArray,List.map_cons,List.map_nil]);first|done|rfl|(simp only [List.length_drop,List.length_take];rfl)) ?_;(with_reducible refine (ih k1 (by have:=HK1.out;omega) (fun k_=>((((P0_0_ k_ ∨ P0_1_ k_) ∨ w.heap.size≤k_)∧(k_≠gb260∧k_≠gb261))∧some k_≠(.slice Ao51 y273.length co51:Value).ownBlock)) _ _ y276 (fun k_=>some k_=(.slice Ao51 y273.length co51:Value).ownBlock) _ _ y273 t281 t284 _ ?side1 ?side2 A40.out).mono ?_);(case side1=>exact HO280.out);(case side2=>exact Kd.R_V (Kd.R_tight rfl (Kd.R_types (Kd.R_types (HO275.out) BK260.out (by decide)) BK261.out (by decide))));rintro e w52 ⟨v282,v285,rfl,ho0,ho1,hb⟩;refine ⟨_,rfl,?_⟩;have n0_:=Aside0.mk (Kd.V_below (by (with_reducible repeat (first|apply Kd.V_alloc|apply Kd.V_drewN|apply Kd.V_drew));exact HO_261000.out) hb);have n1_:=Aside0.mk (Kd.V_below (by (with_reducible repeat (first|apply Kd.V_alloc|apply Kd.V_drewN|apply Kd.V_drew));exact HO_261001.out) hb);have n2_:=Aside0.mk (Kd.V_below (by (with_reducible repeat (first|apply Kd.V_alloc|apply Kd.V_drewN|apply Kd.V_drew));exact HO272.out) hb);have n3_:=Aside0.mk (Kd.R_below (by (with_reducible repeat (first|apply yH|apply yI|apply yJ));exact HO275.out) hb);have n4_:=Aside0.mk (Kd.V_below (by (with_reducible repeat (first|apply Kd.V_alloc|apply Kd.V_drewN|apply Kd.V_drew));exact HO280.out) hb);have n5_:=Aside0.mk (Kd.V_lower (Kd.V_mono (ok':=fun k_=>((P0_0_ k_ ∨ P0_1_ k_) ∨ w.heap.size≤k_)∧k_≠gb260∧k_≠gb261) ho0 (fun k_ hk_=>⟨Or.elim hk_ (fun hs_=>Or.elim hs_ (fun hs_=>hs_.1.1) (fun hs_=>(.inr (((Kd.R_types (Kd.R_types (HO275.out) BK260.out (by decide)) BK261.out (by decide)).1 k_ hs_.symm).1.1)))) (fun hn_=>(.inr (Nat.le_trans (yQ (by repeat (first|(with_reducible first|exact HB.out|apply yA|apply yB|apply yC|refine yD ?_ GE260.out|refine yD ?_ GE261.out)|exact HB.out))) hn_))),Or.elim hk_ (fun hs_=>Or.elim hs_ (fun hs_=>hs_.1.2.1) (fun hs_=>((Kd.R_types (Kd.R_types (HO275.out) BK260.out (by decide)) BK261.out (by decide)).1 k_ hs_.symm).1.2)) (fun hn_=>(Kd.freshB (g:=gb260) (o:=.cells #[.slice (some ad262) l0_0.length c0_0,.slice (some ad263) l0_1.length c0_1] 41 (0,0)) (by (with_reducible repeat (first|refine yE ?_ _|refine yF ?_|refine yG ?_ _));exact BK260.out) k_ hn_)),Or.elim hk_ (fun hs_=>Or.elim hs_ (fun hs_=>hs_.1.2.2) (fun hs_=>((Kd.R_types (Kd.R_types (HO275.out) BK260.out (by decide)) BK261.out (by decide)).1 k_ hs_.symm).2)) (fun hn_=>(Kd.freshB (g:=gb261) (o:=.cells #[.slice none 0 0,.slice none 0 0] 41 (0,0)) (by (with_reducible repeat (first|refine yE ?_ _|refine yF ?_|refine yG ?_ _));exact BK261.out) k_ hn_))⟩)) (yQ (by repeat (first|(with_reducible first|exact HB.out|apply yA|apply yB|apply yC|refine yD ?_ GE260.out|refine yD ?_ GE261.out)|exact HB.out))));have n6_:=Aside0.mk (Kd.V_lower (Kd.V_mono (ok':=fun k_=>((P0_0_ k_ ∨ P0_1_ k_) ∨ w.heap.size≤k_)∧k_≠gb260∧k_≠gb261) ho1 (fun k_ hk_=>⟨Or.elim hk_ (fun hs_=>Or.elim hs_ (fun hs_=>hs_.1.1) (fun hs_=>(.inr (((Kd.R_types (Kd.R_types (HO275.out) BK260.out (by decide)) BK261.out (by decide)).1 k_ hs_.symm).1.1)))) (fun hn_=>(.inr (Nat.le_trans (yQ (by repeat (first|(with_reducible first|exact HB.out|apply yA|apply yB|apply yC|refine yD ?_ GE260.out|refine yD ?_ GE261.out)|exact HB.out))) hn_))),Or.elim hk_ (fun hs_=>Or.elim hs_ (fun hs_=>hs_.1.2.1) (fun hs_=>((Kd.R_types (Kd.R_types (HO275.out) BK260.out (by decide)) BK261.out (by decide)).1 k_ hs_.symm).1.2)) (fun hn_=>(Kd.freshB (g:=gb260) (o:=.cells #[.slice (some ad262) l0_0.length c0_0,.slice (some ad263) l0_1.length c0_1] 41 (0,0)) (by (with_reducible repeat (first|refine yE ?_ _|refine yF ?_|refine yG ?_ _));exact BK260.out) k_ hn_)),Or.elim hk_ (fun hs_=>Or.elim hs_ (fun hs_=>hs_.1.2.2) (fun hs_=>((Kd.R_types (Kd.R_types (HO275.out) BK260.out (by decide)) BK261.out (by decide)).1 k_ hs_.symm).2)) (fun hn_=>(Kd.freshB (g:=gb261) (o:=.cells #[.slice none 0 0,.slice none 0 0] 41 (0,0)) (by (with_reducible repeat (first|refine yE ?_ _|refine yF ?_|refine yG ?_ _));exact BK261.out) k_ hn_))⟩)) (yQ (by repeat (first|(with_reducible first|exact HB.out|apply yA|apply yB|apply yC|refine yD ?_ GE260.out|refine yD ?_ GE261.out)|exact HB.out))));have n7_:=Aside0.mk (blk_below (g:=gb260) (o:=.cells #[.slice (some ad262) l0_0.length c0_0,.slice (some ad263) l0_1.length c0_1] 41 (0,0)) (by (with_reducible repeat (first|refine yE ?_ _|refine yF ?_|refine yG ?_ _));exact BK260.out) hb);have n8_:=Aside0.mk (blk_below (g:=gb261) (o:=.cells #[.slice none 0 0,.slice none 0 0] 41 (0,0)) (by (with_reducible repeat (first|refine yE ?_ _|refine yF ?_|refine yG ?_ _));exact BK261.out) hb);have n9_:=Aside0.mk (yP (by repeat (first|(with_reducible first|exact HB.out|apply yA|apply yB|apply yC|refine yD ?_ GE260.out|refine yD ?_ GE261.out)|exact HB.out)) hb);clear HO_261000;clear HO_261001;clear HO272;clear HO275;clear HO280;clear BK260;clear BK261;clear HB;have HO_261000:=n0_;have HO_261001:=n1_;have HO272:=n2_;have HO275:=n3_;have HO280:=n4_;have HO283:=n5_;have HO286:=n6_;have BK260:=n7_;have BK261:=n8_;have HB:=n9_;clear n0_ n1_ n2_ n3_ n4_ n5_ n6_ n7_ n8_ n9_;(try clear hb);(try clear hb2);(try clear hk);(try clear hi);(try clear ho0);(try clear ho1);obtain ⟨Ao53,co53,eo53⟩:=Kd.V_slice HO283.out;subst eo53;have hcz54_0:w52.cell? ⟨gb261,0,none⟩=some (.slice none 0 0):=(blk_cell BK261.out 0).trans rfl;have hcz54_1:w52.cell? ⟨gb261,1,none⟩=some (.slice none 0 0):=(blk_cell BK261.out 1).trans rfl;have hfz54_0:=blk_frozen BK261.out 0;have hfz54_1:=blk_frozen BK261.out 1;obtain ⟨Ao55,co55,eo55⟩:=Kd.V_slice HO286.out;subst eo55))
             refine bodyPost_ret (results_cell_row rfl _ _ gb261 41 #[.slice Ao53 t281.length co53,.slice Ao55 t284.length co55] (0,0) _ rfl (by (with_reducible repeat (first|refine yE ?_ _|refine yF ?_|refine yG ?_ _));refine blk_put (cs:=#[.slice Ao53 t281.length co53,.slice none 0 0]) ?_ 1 _ rfl;(with_reducible repeat (first|refine yE ?_ _|refine yF ?_|refine yG ?_ _));refine blk_put (cs:=#[.slice none 0 0,.slice none 0 0]) ?_ 0 _ rfl;(with_reducible repeat (first|refine yE ?_ _|refine yF ?_|refine yG ?_ _));exact BK261.out) Try.underlying41 rfl (by kernel_rfl)) rfl ?_
             exact ⟨_,_,by first|rfl|(simp [errW_none,errW_some]<;>rfl)|(simp only [← hji28,← hji31];first|rfl|(simp [errW_none,errW_some]<;>rfl))|(simp [*,errW_none,errW_some]<;>rfl),by (with_reducible repeat (first|apply Kd.V_alloc|apply Kd.V_drewN|apply Kd.V_drew));exact Kd.V_mono (Kd.V_far (p:=⟨gb261,1,none⟩) (Kd.V_far (p:=⟨gb261,0,none⟩) (Kd.V_mono HO283.out (fun k_ hk=>(⟨hk,hk.2.2⟩:_∧k_≠gb261))) (fun _ hk=>hk.2) (.slice Ao53 t281.length co53)) (fun _ hk=>hk.2) (.slice Ao55 t284.length co55)) (fun _ hk=>hk.1.1),by (with_reducible repeat (first|apply Kd.V_alloc|apply Kd.V_drewN|apply Kd.V_drew));exact Kd.V_mono (Kd.V_far (p:=⟨gb261,1,none⟩) (Kd.V_far (p:=⟨gb261,0,none⟩) (Kd.V_mono HO286.out (fun k_ hk=>(⟨hk,hk.2.2⟩:_∧k_≠gb261))) (fun _ hk=>hk.2) (.slice Ao53 t281.length co53)) (fun _ hk=>hk.2) (.slice Ao55 t284.length co55)) (fun _ hk=>hk.1.1),by repeat (first|(with_reducible first|exact HB.out|apply yA|apply yB|apply yC|refine yD ?_ GE260.out|refine yD ?_ GE261.out)|exact HB.out)⟩
            ·rw [if_neg c39] at H
             exact absurd H (by simp)
           ·rw [if_neg c37] at H
            exact absurd H (by simp)
          ·rw [if_neg c36] at H
           exact absurd H (by simp)
         ·rw [if_neg c34] at H
          have c34b0:((rdOf false l0_0 (ji28)) == (rdOf false l0_1 (ji31)))=false:=by simpa using c34
          (try (have c34b1:decide ((rdOf false l0_0 (ji28))=(rdOf false l0_1 (ji31)))=false:=by simpa using c34))
          (try (have c34b2:((rdOf false l0_0 (ji28)) == (rdOf false l0_1 (ji31)))=false:=by simpa using c34))
          (try (have c34b3:¬ ((rdOf false l0_0 (ji28))=(rdOf false l0_1 (ji31))):=by simpa using c34))
          clear c34
          simp only [Option.some.injEq,Prod.mk.injEq] at H
          obtain ⟨rfl,rfl⟩:=H
          have hnb56:=NB260_261.out
          have hnc56:=NB261_260.out
          have hcz57_0:wr.cell? ⟨gb260,0,none⟩=some (.slice A0_0 l0_0.length c0_0):=(blk_cell BK260.out 0).trans rfl
          have hcz57_1:wr.cell? ⟨gb260,1,none⟩=some (.slice A0_1 l0_1.length c0_1):=(blk_cell BK260.out 1).trans rfl
          have hfz57_0:=blk_frozen BK260.out 0
          have hfz57_1:=blk_frozen BK260.out 1
          try go_wp2
          have n0_:=Aside0.mk (Kd.V_drew HO_261000.out)
          have n1_:=Aside0.mk (Kd.V_drew HO_261001.out)
          have n2_:=Aside0.mk (yF BK260.out)
          have n3_:=Aside0.mk (yF BK261.out)
          have n4_:=Aside0.mk (yC HB.out)
          clear HO_261000
          clear HO_261001
          clear BK260
          clear BK261
          clear HB
          have HO_261000:=n0_
          have HO_261001:=n1_
          have BK260:=n2_
          have BK261:=n3_
          have HB:=n4_
          clear n0_ n1_ n2_ n3_ n4_
          have p262:0≤((ji28):Int):=of_decide_eq_true (by first|(with_reducible assumption)|assumption)
          have q262:(ji28)<(l0_0.length:Int):=of_decide_eq_true (by first|(with_reducible assumption)|assumption)
          obtain ⟨ad262,e262,hx262_0⟩:=Kd.at_bool (Kd.V_reads' HO_261000.out).2.2 (ji28) p262 q262
          cases e262
          replace p262:=eq_true p262
          replace q262:=eq_true q262
          have p263:0≤((ji31):Int):=of_decide_eq_true (by first|(with_reducible assumption)|assumption)
          have q263:(ji31)<(l0_1.length:Int):=of_decide_eq_true (by first|(with_reducible assumption)|assumption)
          obtain ⟨ad263,e263,hx263_0⟩:=Kd.at_bool (Kd.V_reads' HO_261001.out).2.2 (ji31) p263 q263
          cases e263
          replace p263:=eq_true p263
          replace q263:=eq_true q263
          refine start_ (n:=17) (S:=fun w'=>w'.cell? ⟨gb260,0,none⟩=some (.slice (some ad262) l0_0.length c0_0)∧w'.cell? ⟨gb260,1,none⟩=some (.slice (some ad263) l0_1.length c0_1)∧w'.cell? (ad262.add ((ji28)).toNat)=some (.bool (rdOf false l0_0 (ji28)))∧w'.cell? (ad263.add ((ji31)).toNat)=some (.bool (rdOf false l0_1 (ji31)))) (ds:=[]) #[false,false,false,false,false,false,false,false,false,false,false,false,false,false,false,false,false] (by kernel_rfl) rfl rfl ⟨(blk_cell BK260.out 0).trans rfl,(blk_cell BK260.out 1).trans rfl,hx262_0,hx263_0⟩ (fun hHeld=>?_);refine with_tabW spec_l1Less.tab13 spec_l1Less.bits13 (fun HT_ HW_=>?_)
          generalize wr.drew=w58 at HO_261000 HO_261001 BK260 BK261 HB hx262_0 hx263_0 hHeld ⊢
          refine pure_ (i:=0) (N:=some 55) (v:=?_) (a':=?_) #[true,false,false,false,false,false,false,false,false,false,false,false,false,false,false,false,false] rfl rfl (any_of HT_.out (by kernel_rfl)) (fun _ _ _ h=>h) (Or.inl ⟨by rfl,?_⟩) ?_ ?_
          rotate_left
          ·intro w'
           go_simp
           with_reducible rfl
          rotate_left
          ·simp only [Act.put,yK,yL,yM,i64_w,i32_w]
           rfl
          refine pure_ (i:=1) (N:=some 56) (v:=?_) (a':=?_) #[true,true,false,false,false,false,false,false,false,false,false,false,false,false,false,false,false] rfl rfl (any_of HT_.out (by kernel_rfl)) (fun _ _ _ h=>h) (Or.inl ⟨by rfl,?_⟩) ?_ ?_
          rotate_left
          ·intro w'
           go_simp
           with_reducible rfl
          rotate_left
          ·simp only [Act.put,yK,yL,yM,i64_w,i32_w]
           rfl
          refine pure_ (i:=2) (N:=some 57) (v:=?_) (a':=?_) #[true,true,true,false,false,false,false,false,false,false,false,false,false,false,false,false,false] rfl rfl (any_of HT_.out (by kernel_rfl)) (fun _ _ _ h=>h) (Or.inl ⟨by rfl,?_⟩) ?_ ?_
          rotate_left
          ·intro w'
           go_simp
           with_reducible rfl
          rotate_left
          ·simp only [Act.put,yK,yL,yM,i64_w,i32_w]
           rfl
          refine pure_ (i:=3) (N:=some 58) (v:=?_) (a':=?_) #[true,true,true,true,false,false,false,false,false,false,false,false,false,false,false,false,false] rfl rfl (any_of HT_.out (by kernel_rfl)) (fun _ _ _ h=>h) (Or.inl ⟨by rfl,?_⟩) ?_ ?_
          rotate_left
          ·intro w'
           go_simp
           with_reducible rfl
          rotate_left
          ·simp only [Act.put,yK,yL,yM,i64_w,i32_w]
           rfl
          refine pure_ (i:=5) (N:=some 60) (v:=?_) (a':=?_) #[true,true,true,true,false,true,false,false,false,false,false,false,false,false,false,false,false] rfl rfl (any_of HT_.out (by kernel_rfl)) (fun _ _ _ h=>h) (Or.inl ⟨by rfl,?_⟩) ?_ ?_
          rotate_left
          ·intro w'
           go_simp
           with_reducible rfl
          rotate_left
          ·simp only [Act.put,yK,yL,yM,i64_w,i32_w]
           rfl
          refine pure_ (i:=6) (N:=some 61) (v:=?_) (a':=?_) #[true,true,true,true,false,true,true,false,false,false,false,false,false,false,false,false,false] rfl rfl (any_of HT_.out (by kernel_rfl)) (fun _ _ _ h=>h) (Or.inl ⟨by rfl,?_⟩) ?_ ?_
          rotate_left
          ·intro w'
           go_simp
           with_reducible rfl
          rotate_left
          ·simp only [Act.put,yK,yL,yM,i64_w,i32_w]
           rfl
          refine pure_ (i:=9) (N:=some 64) (v:=?_) (a':=?_) #[true,true,true,true,false,true,true,false,false,true,false,false,false,false,false,false,false] rfl rfl (any_of HT_.out (by kernel_rfl)) (fun _ _ _ h=>h) (Or.inl ⟨by rfl,?_⟩) ?_ ?_
          rotate_left
          ·intro w'
           go_simp
           with_reducible rfl
          rotate_left
          ·simp only [Act.put,yK,yL,yM,i64_w,i32_w]
           rfl
          refine pure_ (i:=11) (N:=some 66) (v:=?_) (a':=?_) #[true,true,true,true,false,true,true,false,false,true,false,true,false,false,false,false,false] rfl rfl (any_of HT_.out (by kernel_rfl)) (fun _ _ _ h=>h) (Or.inl ⟨by rfl,?_⟩) ?_ ?_
          rotate_left
          ·intro w'
           go_simp
           with_reducible rfl
          rotate_left
          ·simp only [Act.put,yK,yL,yM,i64_w,i32_w]
           rfl
          refine pure_ (i:=12) (N:=some 67) (v:=?_) (a':=?_) #[true,true,true,true,false,true,true,false,false,true,false,true,true,false,false,false,false] rfl rfl (any_of HT_.out (by kernel_rfl)) (fun _ _ _ h=>h) (Or.inl ⟨by rfl,?_⟩) ?_ ?_
          rotate_left
          ·intro w'
           go_simp
           with_reducible rfl
          rotate_left
          ·simp only [Act.put,yK,yL,yM,i64_w,i32_w]
           rfl
          refine take_ (i:=4) (N:=some 59) (v:=?_) (a':=?_) #[true,true,true,true,true,true,true,false,false,true,false,true,true,false,false,false,false] rfl rfl (take_ofW HT_.out HW_.out (by kernel_rfl)) (fun _ _ _ h=>h) (Or.inl ⟨by rfl,?_⟩) hHeld ?_ ?_
          rotate_left
          ·rintro w' ⟨s0,s1,s2,s3⟩
           go_simp
           with_reducible rfl
          rotate_left
          ·simp only [Act.put,yK,yL,yM,i64_w,i32_w]
           rfl
          refine pure_ (i:=7) (N:=some 62) (v:=?_) (a':=?_) #[true,true,true,true,true,true,true,true,false,true,false,true,true,false,false,false,false] rfl rfl (any_of HT_.out (by kernel_rfl)) (fun _ _ _ h=>h) (Or.inl ⟨by rfl,?_⟩) ?_ ?_
          rotate_left
          ·intro w'
           go_simp
           with_reducible rfl
          rotate_left
          ·simp only [Act.put,yK,yL,yM,i64_w,i32_w]
           rfl
          refine take_ (i:=8) (N:=some 63) (v:=?_) (a':=?_) #[true,true,true,true,true,true,true,true,true,true,false,true,true,false,false,false,false] rfl rfl (take_ofW HT_.out HW_.out (by kernel_rfl)) (fun _ _ _ h=>h) (Or.inl ⟨by rfl,?_⟩) hHeld ?_ ?_
          rotate_left
          ·rintro w' ⟨s0,s1,s2,s3⟩
           go_simp
           with_reducible rfl
          rotate_left
          ·simp only [Act.put,yK,yL,yM,i64_w,i32_w]
           rfl
          refine take_ (i:=10) (N:=some 65) (v:=?_) (a':=?_) #[true,true,true,true,true,true,true,true,true,true,true,true,true,false,false,false,false] rfl rfl (take_ofW HT_.out HW_.out (by kernel_rfl)) (fun _ _ _ h=>h) (Or.inl ⟨by rfl,?_⟩) hHeld ?_ ?_
          rotate_left
          ·rintro w' ⟨s0,s1,s2,s3⟩
           go_simp
           with_reducible rfl
          rotate_left
          ·simp only [Act.put,yK,yL,yM,i64_w,i32_w]
           rfl
          refine pure_ (i:=13) (N:=some 68) (v:=?_) (a':=?_) #[true,true,true,true,true,true,true,true,true,true,true,true,true,true,false,false,false] rfl rfl (any_of HT_.out (by kernel_rfl)) (fun _ _ _ h=>h) (Or.inl ⟨by rfl,?_⟩) ?_ ?_
          rotate_left
          ·intro w'
           go_simp
           with_reducible rfl
          rotate_left
          ·simp only [Act.put,yK,yL,yM,i64_w,i32_w]
           rfl
          refine take_ (i:=14) (N:=some 69) (v:=?_) (a':=?_) #[true,true,true,true,true,true,true,true,true,true,true,true,true,true,true,false,false] rfl rfl (take_ofW HT_.out HW_.out (by kernel_rfl)) (fun _ _ _ h=>h) (Or.inl ⟨by rfl,?_⟩) hHeld ?_ ?_
          rotate_left
          ·rintro w' ⟨s0,s1,s2,s3⟩
           go_simp
           with_reducible rfl
          rotate_left
          ·simp only [Act.put,yK,yL,yM,i64_w,i32_w]
           rfl
          refine pure_ (i:=15) (N:=some 70) (v:=?_) (a':=?_) #[true,true,true,true,true,true,true,true,true,true,true,true,true,true,true,true,false] rfl rfl (any_of HT_.out (by kernel_rfl)) (fun _ _ _ h=>h) (Or.inl ⟨by rfl,?_⟩) ?_ ?_
          rotate_left
          ·intro w'
           go_simp
           with_reducible rfl
          rotate_left
          ·simp only [Act.put,yK,yL,yM,i64_w,i32_w]
           rfl
          refine pure_ (i:=16) (N:=some 71) (v:=?_) (a':=?_) #[true,true,true,true,true,true,true,true,true,true,true,true,true,true,true,true,true] rfl rfl (any_of HT_.out (by kernel_rfl)) (fun _ _ _ h=>h) (Or.inl ⟨by rfl,?_⟩) ?_ ?_
          rotate_left
          ·intro w'
           go_simp
           with_reducible rfl
          rotate_left
          ·simp only [Act.put,yK,yL,yM,i64_w,i32_w]
           rfl
          refine done_ (done_of HT_.out (by kernel_rfl)) ?_
          have hcz59_0:w58.cell? ⟨gb260,0,none⟩=some (.slice (some ad262) l0_0.length c0_0):=(blk_cell BK260.out 0).trans rfl
          have hcz59_1:w58.cell? ⟨gb260,1,none⟩=some (.slice (some ad263) l0_1.length c0_1):=(blk_cell BK260.out 1).trans rfl
          have hfz59_0:=blk_frozen BK260.out 0
          have hfz59_1:=blk_frozen BK260.out 1
          have hcz60_0:w58.cell? ⟨gb261,0,none⟩=some (.slice none 0 0):=(blk_cell BK261.out 0).trans rfl
          have hcz60_1:w58.cell? ⟨gb261,1,none⟩=some (.slice none 0 0):=(blk_cell BK261.out 1).trans rfl
          have hfz60_0:=blk_frozen BK261.out 0
          have hfz60_1:=blk_frozen BK261.out 1
          try go_wp2
          refine bodyPost_ret (results_cell_row rfl _ _ gb261 41 #[.slice (some ad262) l0_0.length c0_0,.slice (some ad263) l0_1.length c0_1] (0,0) _ rfl (by (with_reducible repeat (first|refine yE ?_ _|refine yF ?_|refine yG ?_ _));refine blk_put (cs:=#[.slice (some ad262) l0_0.length c0_0,.slice none 0 0]) ?_ 1 _ rfl;(with_reducible repeat (first|refine yE ?_ _|refine yF ?_|refine yG ?_ _));refine blk_put (cs:=#[.slice none 0 0,.slice none 0 0]) ?_ 0 _ rfl;(with_reducible repeat (first|refine yE ?_ _|refine yF ?_|refine yG ?_ _));exact BK261.out) Try.underlying41 rfl (by kernel_rfl)) rfl ?_
          exact ⟨_,_,by first|rfl|(simp [errW_none,errW_some]<;>rfl)|(simp only [← hji28,← hji31];first|rfl|(simp [errW_none,errW_some]<;>rfl))|(simp [*,errW_none,errW_some]<;>rfl),by (with_reducible repeat (first|apply Kd.V_alloc|apply Kd.V_drewN|apply Kd.V_drew));exact Kd.V_mono (Kd.V_far (p:=⟨gb261,1,none⟩) (Kd.V_far (p:=⟨gb261,0,none⟩) (Kd.V_mono HO_261000.out (fun k_ hk=>(⟨hk,hk.2.2⟩:_∧k_≠gb261))) (fun _ hk=>hk.2) (.slice (some ad262) l0_0.length c0_0)) (fun _ hk=>hk.2) (.slice (some ad263) l0_1.length c0_1)) (fun _ hk=>hk.1.1),by (with_reducible repeat (first|apply Kd.V_alloc|apply Kd.V_drewN|apply Kd.V_drew));exact Kd.V_mono (Kd.V_far (p:=⟨gb261,1,none⟩) (Kd.V_far (p:=⟨gb261,0,none⟩) (Kd.V_mono HO_261001.out (fun k_ hk=>(⟨hk,hk.2.2⟩:_∧k_≠gb261))) (fun _ hk=>hk.2) (.slice (some ad262) l0_0.length c0_0)) (fun _ hk=>hk.2) (.slice (some ad263) l0_1.length c0_1)) (fun _ hk=>hk.1.1),by repeat (first|(with_reducible first|exact HB.out|apply yA|apply yB|apply yC|refine yD ?_ GE260.out|refine yD ?_ GE261.out)|exact HB.out)⟩
        ·rw [if_neg c33] at H
         exact absurd H (by simp)
       ·rw [if_neg c32] at H
        exact absurd H (by simp)
      ·rw [if_neg c30] at H
       exact absurd H (by simp)
     ·rw [if_neg c29] at H
      exact absurd H (by simp)
    ·rw [if_neg c27] at H
     have c27b0:decide (0<(l0_0.length:Int))=false:=decide_eq_false c27
     have c27b1:decide (0<l0_0.length)=false:=decide_eq_false (by omega)
     clear c27
     simp only [Option.some.injEq,Prod.mk.injEq] at H
     obtain ⟨rfl,rfl⟩:=H
     have hnb61:=NB260_261.out
     have hnc61:=NB261_260.out
     have hcz62_0:wr.cell? ⟨gb260,0,none⟩=some (.slice A0_0 l0_0.length c0_0):=(blk_cell BK260.out 0).trans rfl
     have hcz62_1:wr.cell? ⟨gb260,1,none⟩=some (.slice A0_1 l0_1.length c0_1):=(blk_cell BK260.out 1).trans rfl
     have hfz62_0:=blk_frozen BK260.out 0
     have hfz62_1:=blk_frozen BK260.out 1
     try go_wp2
     have n0_:=Aside0.mk (Kd.V_drew HO_261000.out)
     have n1_:=Aside0.mk (Kd.V_drew HO_261001.out)
     have n2_:=Aside0.mk (yF BK260.out)
     have n3_:=Aside0.mk (yF BK261.out)
     have n4_:=Aside0.mk (yC HB.out)
     clear HO_261000
     clear HO_261001
     clear BK260
     clear BK261
     clear HB
     have HO_261000:=n0_
     have HO_261001:=n1_
     have BK260:=n2_
     have BK261:=n3_
     have HB:=n4_
     clear n0_ n1_ n2_ n3_ n4_
     refine start_ (n:=17) (S:=fun w'=>True) (ds:=[]) #[false,false,false,false,false,false,false,false,false,false,false,false,false,false,false,false,false] (by kernel_rfl) rfl rfl trivial (fun hHeld=>?_);refine with_tabW spec_l1Less.tab13 spec_l1Less.bits13 (fun HT_ HW_=>?_)
     generalize wr.drew=w63 at HO_261000 HO_261001 BK260 BK261 HB hHeld ⊢
     refine pure_ (i:=0) (N:=some 55) (v:=?_) (a':=?_) #[true,false,false,false,false,false,false,false,false,false,false,false,false,false,false,false,false] rfl rfl (any_of HT_.out (by kernel_rfl)) (fun _ _ _ h=>h) (Or.inl ⟨by rfl,?_⟩) ?_ ?_
     rotate_left
     ·intro w'
      go_simp
      with_reducible rfl
     rotate_left
     ·simp only [Act.put,yK,yL,yM,i64_w,i32_w]
      rfl
     refine pure_ (i:=1) (N:=some 56) (v:=?_) (a':=?_) #[true,true,false,false,false,false,false,false,false,false,false,false,false,false,false,false,false] rfl rfl (any_of HT_.out (by kernel_rfl)) (fun _ _ _ h=>h) (Or.inl ⟨by rfl,?_⟩) ?_ ?_
     rotate_left
     ·intro w'
      go_simp
      with_reducible rfl
     rotate_left
     ·simp only [Act.put,yK,yL,yM,i64_w,i32_w]
      rfl
     refine pure_ (i:=2) (N:=some 57) (v:=?_) (a':=?_) #[true,true,true,false,false,false,false,false,false,false,false,false,false,false,false,false,false] rfl rfl (any_of HT_.out (by kernel_rfl)) (fun _ _ _ h=>h) (Or.inl ⟨by rfl,?_⟩) ?_ ?_
     rotate_left
     ·intro w'
      go_simp
      with_reducible rfl
     rotate_left
     ·simp only [Act.put,yK,yL,yM,i64_w,i32_w]
      rfl
     refine pure_ (i:=3) (N:=some 58) (v:=undef) (a':=?_) #[true,true,true,true,false,false,false,false,false,false,false,false,false,false,false,false,false] rfl rfl (any_of HT_.out (by kernel_rfl)) (fun _ _ _ h=>h) (Or.inr ⟨by rfl,rfl⟩) ?_ ?_
     rotate_left
     ·simp only [Act.put,yK,yL,yM,i64_w,i32_w]
      rfl
     refine pure_ (i:=4) (N:=some 59) (v:=undef) (a':=?_) #[true,true,true,true,true,false,false,false,false,false,false,false,false,false,false,false,false] rfl rfl (any_of HT_.out (by kernel_rfl)) (fun _ _ _ h=>h) (Or.inr ⟨by rfl,rfl⟩) ?_ ?_
     rotate_left
     ·simp only [Act.put,yK,yL,yM,i64_w,i32_w]
      rfl
     refine pure_ (i:=5) (N:=some 60) (v:=undef) (a':=?_) #[true,true,true,true,true,true,false,false,false,false,false,false,false,false,false,false,false] rfl rfl (any_of HT_.out (by kernel_rfl)) (fun _ _ _ h=>h) (Or.inr ⟨by rfl,rfl⟩) ?_ ?_
     rotate_left
     ·simp only [Act.put,yK,yL,yM,i64_w,i32_w]
      rfl
     refine pure_ (i:=6) (N:=some 61) (v:=undef) (a':=?_) #[true,true,true,true,true,true,true,false,false,false,false,false,false,false,false,false,false] rfl rfl (any_of HT_.out (by kernel_rfl)) (fun _ _ _ h=>h) (Or.inr ⟨by rfl,rfl⟩) ?_ ?_
     rotate_left
     ·simp only [Act.put,yK,yL,yM,i64_w,i32_w]
      rfl
     refine pure_ (i:=7) (N:=some 62) (v:=undef) (a':=?_) #[true,true,true,true,true,true,true,true,false,false,false,false,false,false,false,false,false] rfl rfl (any_of HT_.out (by kernel_rfl)) (fun _ _ _ h=>h) (Or.inr ⟨by rfl,rfl⟩) ?_ ?_
     rotate_left
     ·simp only [Act.put,yK,yL,yM,i64_w,i32_w]
      rfl
     refine pure_ (i:=8) (N:=some 63) (v:=undef) (a':=?_) #[true,true,true,true,true,true,true,true,true,false,false,false,false,false,false,false,false] rfl rfl (any_of HT_.out (by kernel_rfl)) (fun _ _ _ h=>h) (Or.inr ⟨by rfl,rfl⟩) ?_ ?_
     rotate_left
     ·simp only [Act.put,yK,yL,yM,i64_w,i32_w]
      rfl
     refine pure_ (i:=9) (N:=some 64) (v:=undef) (a':=?_) #[true,true,true,true,true,true,true,true,true,true,false,false,false,false,false,false,false] rfl rfl (any_of HT_.out (by kernel_rfl)) (fun _ _ _ h=>h) (Or.inr ⟨by rfl,rfl⟩) ?_ ?_
     rotate_left
     ·simp only [Act.put,yK,yL,yM,i64_w,i32_w]
      rfl
     refine pure_ (i:=10) (N:=some 65) (v:=undef) (a':=?_) #[true,true,true,true,true,true,true,true,true,true,true,false,false,false,false,false,false] rfl rfl (any_of HT_.out (by kernel_rfl)) (fun _ _ _ h=>h) (Or.inr ⟨by rfl,rfl⟩) ?_ ?_
     rotate_left
     ·simp only [Act.put,yK,yL,yM,i64_w,i32_w]
      rfl
     refine pure_ (i:=11) (N:=some 66) (v:=undef) (a':=?_) #[true,true,true,true,true,true,true,true,true,true,true,true,false,false,false,false,false] rfl rfl (any_of HT_.out (by kernel_rfl)) (fun _ _ _ h=>h) (Or.inr ⟨by rfl,rfl⟩) ?_ ?_
     rotate_left
     ·simp only [Act.put,yK,yL,yM,i64_w,i32_w]
      rfl
     refine pure_ (i:=12) (N:=some 67) (v:=undef) (a':=?_) #[true,true,true,true,true,true,true,true,true,true,true,true,true,false,false,false,false] rfl rfl (any_of HT_.out (by kernel_rfl)) (fun _ _ _ h=>h) (Or.inr ⟨by rfl,rfl⟩) ?_ ?_
     rotate_left
     ·simp only [Act.put,yK,yL,yM,i64_w,i32_w]
      rfl
     refine pure_ (i:=13) (N:=some 68) (v:=undef) (a':=?_) #[true,true,true,true,true,true,true,true,true,true,true,true,true,true,false,false,false] rfl rfl (any_of HT_.out (by kernel_rfl)) (fun _ _ _ h=>h) (Or.inr ⟨by rfl,rfl⟩) ?_ ?_
     rotate_left
     ·simp only [Act.put,yK,yL,yM,i64_w,i32_w]
      rfl
     refine pure_ (i:=14) (N:=some 69) (v:=undef) (a':=?_) #[true,true,true,true,true,true,true,true,true,true,true,true,true,true,true,false,false] rfl rfl (any_of HT_.out (by kernel_rfl)) (fun _ _ _ h=>h) (Or.inr ⟨by rfl,rfl⟩) ?_ ?_
     rotate_left
     ·simp only [Act.put,yK,yL,yM,i64_w,i32_w]
      rfl
     refine pure_ (i:=15) (N:=some 70) (v:=undef) (a':=?_) #[true,true,true,true,true,true,true,true,true,true,true,true,true,true,true,true,false] rfl rfl (any_of HT_.out (by kernel_rfl)) (fun _ _ _ h=>h) (Or.inr ⟨by rfl,rfl⟩) ?_ ?_
     rotate_left
     ·simp only [Act.put,yK,yL,yM,i64_w,i32_w]
      rfl
     refine pure_ (i:=16) (N:=some 71) (v:=?_) (a':=?_) #[true,true,true,true,true,true,true,true,true,true,true,true,true,true,true,true,true] rfl rfl (any_of HT_.out (by kernel_rfl)) (fun _ _ _ h=>h) (Or.inl ⟨by rfl,?_⟩) ?_ ?_
     rotate_left
     ·intro w'
      go_simp
      with_reducible rfl
     rotate_left
     ·simp only [Act.put,yK,yL,yM,i64_w,i32_w]
      rfl
     refine done_ (done_of HT_.out (by kernel_rfl)) ?_
     have hcz64_0:w63.cell? ⟨gb260,0,none⟩=some (.slice A0_0 l0_0.length c0_0):=(blk_cell BK260.out 0).trans rfl
     have hcz64_1:w63.cell? ⟨gb260,1,none⟩=some (.slice A0_1 l0_1.length c0_1):=(blk_cell BK260.out 1).trans rfl
     have hfz64_0:=blk_frozen BK260.out 0
     have hfz64_1:=blk_frozen BK260.out 1
     have hcz65_0:w63.cell? ⟨gb261,0,none⟩=some (.slice none 0 0):=(blk_cell BK261.out 0).trans rfl
     have hcz65_1:w63.cell? ⟨gb261,1,none⟩=some (.slice none 0 0):=(blk_cell BK261.out 1).trans rfl
     have hfz65_0:=blk_frozen BK261.out 0
     have hfz65_1:=blk_frozen BK261.out 1
     try go_wp2
     refine bodyPost_ret (results_cell_row rfl _ _ gb261 41 #[.slice A0_0 l0_0.length c0_0,.slice A0_1 l0_1.length c0_1] (0,0) _ rfl (by (with_reducible repeat (first|refine yE ?_ _|refine yF ?_|refine yG ?_ _));refine blk_put (cs:=#[.slice A0_0 l0_0.length c0_0,.slice none 0 0]) ?_ 1 _ rfl;(with_reducible repeat (first|refine yE ?_ _|refine yF ?_|refine yG ?_ _));refine blk_put (cs:=#[.slice none 0 0,.slice none 0 0]) ?_ 0 _ rfl;(with_reducible repeat (first|refine yE ?_ _|refine yF ?_|refine yG ?_ _));exact BK261.out) Try.underlying41 rfl (by kernel_rfl)) rfl ?_
     exact ⟨_,_,by first|rfl|(simp [errW_none,errW_some]<;>rfl)|(simp [*,errW_none,errW_some]<;>rfl)|(simp [errW_none,errW_some];exact ⟨rfl,rfl⟩),by (with_reducible repeat (first|apply Kd.V_alloc|apply Kd.V_drewN|apply Kd.V_drew));exact Kd.V_mono (Kd.V_far (p:=⟨gb261,1,none⟩) (Kd.V_far (p:=⟨gb261,0,none⟩) (Kd.V_mono HO_261000.out (fun k_ hk=>(⟨hk,hk.2.2⟩:_∧k_≠gb261))) (fun _ hk=>hk.2) (.slice A0_0 l0_0.length c0_0)) (fun _ hk=>hk.2) (.slice A0_1 l0_1.length c0_1)) (fun _ hk=>hk.1.1),by (with_reducible repeat (first|apply Kd.V_alloc|apply Kd.V_drewN|apply Kd.V_drew));exact Kd.V_mono (Kd.V_far (p:=⟨gb261,1,none⟩) (Kd.V_far (p:=⟨gb261,0,none⟩) (Kd.V_mono HO_261001.out (fun k_ hk=>(⟨hk,hk.2.2⟩:_∧k_≠gb261))) (fun _ hk=>hk.2) (.slice A0_0 l0_0.length c0_0)) (fun _ hk=>hk.2) (.slice A0_1 l0_1.length c0_1)) (fun _ hk=>hk.1.1),by repeat (first|(with_reducible first|exact HB.out|apply yA|apply yB|apply yC|refine yD ?_ GE260.out|refine yD ?_ GE261.out)|exact HB.out)⟩

end Go.Proofs.Ytnmkinnfbbehnaa.P

namespace Go.Proofs.Ytnmkinnfbbehnaa.P
open Go.RowKit Go.Proofs.YtnmkinnfbbehnaaW.PrintWords Go.Proofs.YtnmkinnfbbehnaaW.PrintLast Go.Proofs.YtnmkinnfbbehnaaW.PrintMore
attribute [local go_sem] max2_int min2_int max_two min_two max_three min_three max_four min_four   -- for this text's walks alone
set_option linter.unusedVariables false
set_option linter.unusedSimpArgs false

/-! ### spec_l1Signs: function 27 -/
def spec_l1Signs.l0:Nat→ByteArray→List Bool→Int→Option (List Bool × Bool)
 | 0,_,_,_=>none
 | k+1,x0,x4,x5=>if x5<(x0.size:Int) then (if 0≤x5 then (if (bt x0 x5)=48 then (if x4.length<140737488355328 then (spec_l1Signs.l0 k x0 (x4++[((bt x0 x5) == 49)]) (wrap64 (x5+1))) else (none)) else (if (bt x0 x5)=49 then (if x4.length<140737488355328 then (spec_l1Signs.l0 k x0 (x4++[true]) (wrap64 (x5+1))) else (none)) else (some ((([]:List Bool)),false)))) else (none)) else (some (x4,true))
def spec_l1Signs.f (k:Nat) (a0:ByteArray):Option (List Bool × Bool):=spec_l1Signs.l0 k a0 (([]:List Bool)) 0
theorem spec_l1Signs.mono_l:∀ k,(∀ y0 y1 y2,LeO (spec_l1Signs.l0 k y0 y1 y2) (spec_l1Signs.l0 (k+1) y0 y1 y2))
 | 0=>fun _ _ _ r h=>by simp [spec_l1Signs.l0] at h
 | k+1=>by
  have ih0:=spec_l1Signs.mono_l k
  ·intro y0 y1 y2
   unfold spec_l1Signs.l0
   repeat' first
   | (with_reducible exact ih0 _ _ _)
   | (with_reducible exact LeO.refl _)
   | (with_reducible exact LeO.none _)
   | (with_reducible refine LeO.ite ?_ ?_)
   | (with_reducible refine LeO.bind ?_ (fun _=>?_))
   | exact ih0 _ _ _
   | exact LeO.none _
   | refine LeO.ite ?_ ?_
   | refine LeO.bind ?_ (fun _=>?_)
theorem spec_l1Signs.mono:∀ a0 k,LeO (spec_l1Signs.f k a0) (spec_l1Signs.f (k+1) a0):=by
 intro a0 k
 have ih0:=spec_l1Signs.mono_l k
 unfold spec_l1Signs.f
 repeat' first
   | (with_reducible exact ih0 _ _ _)
   | (with_reducible exact LeO.refl _)
   | (with_reducible exact LeO.none _)
   | (with_reducible refine LeO.ite ?_ ?_)
   | (with_reducible refine LeO.bind ?_ (fun _=>?_))
   | exact ih0 _ _ _
   | exact LeO.none _
   | refine LeO.ite ?_ ?_
   | refine LeO.bind ?_ (fun _=>?_)
set_option maxHeartbeats 8000000 in
set_option maxRecDepth 100000 in
theorem spec_l1Signs.calls (k:Nat) (a0:ByteArray) (r1:List Bool) (r2:Bool) (w:World) (h:spec_l1Signs.f k a0=some (r1,r2)) :
  Calls Try.prog 27 #[.string a0] w fun e w'=>∃ v0_:Value,e=.returned (.tuple #[v0_,.bool r2])∧Kd.R Kd.bool 4 w' w.heap.size (fun _=>True) v0_ r1∧Below w.heap.size w w':=by
 have HB:=Aside0.mk (Below.refl w.heap.size w)
 have H:(spec_l1Signs.l0 k a0 (([]:List Bool)) 0)=some (r1,r2):=h
 clear h
 obtain ⟨y232,hy232⟩:∃ y_:List Bool,y_=(([]:List Bool)):=⟨_,rfl⟩
 replace H:(spec_l1Signs.l0 k a0 y232 0)=some (r1,r2):=by first|(rw [hy232];with_reducible exact H)|(have H2_:=(Option.bind_some _ _).symm.trans H;rw [hy232];with_reducible exact H2_)|(have H2_:=(Option.bind_some _ _).symm.trans H;with_reducible exact H2_)|with_reducible exact H|(rw [hy232];exact H)|exact H
 have Ny232:=Aside0.mk hy232
 clear hy232
 have H':=Aside0.mk H
 clear H
 go_enter Try.func27,Try.ntmps27
 go_wp2_with (first|((with_reducible refine gate_dst (N:=6) rfl ?_);refine Kd.R_lit Kd.bool _ 4 ?hg (N:=6) ?hd (xs:=([]:List Bool)) (inner:=[]) (ok:=fun _=>True) (okp:=fun _=>True) ?hr ?hp (fun _ hk=>hk) trivial (Below.refl _ _) (Nat.le_refl _) (by simp) ?_;(case hd=>rfl);(case hg=>rfl);(case hr=>first|(go_simp;done)|(go_simp;rfl));(case hp=>exact (Reps.none _ _));intro v233 w2 ho3 hb hg_ hnew_;clear hg_ hnew_;(first|rw [← Ny232.out] at ho3|(simp only [Int.reduceToNat] at ho3;rw [← Ny232.out] at ho3));have n0_:=Aside0.mk (Kd.R_lower ho3 (yQ (by repeat (first|(with_reducible first|exact HB.out|apply yA|apply yB|apply yC)|exact HB.out))));have n1_:=Aside0.mk (yP (by repeat (first|(with_reducible first|exact HB.out|apply yA|apply yB|apply yC)|exact HB.out)) hb);clear HB;have HO234:=n0_;have HB:=n1_;clear n0_ n1_;clear hb ho3))
 go_loopg [4,5] k (fun kq v4 v5 w'=>∃ (x4_1:List Bool) (x5_1:Int),v5=.int .i64 x5_1∧Aside0 (spec_l1Signs.l0 kq a0 x4_1 x5_1=some (r1,r2))∧Aside0 (kq≤k)∧Aside0 (Kd.R Kd.bool 4 w' w.heap.size (fun _=>True) v4 x4_1)∧Aside0 (Below w.heap.size w w'))
 case atStart=>exact ⟨(y232),(0),(by first|rfl|(simp;done)|(simp [*];done)|(simp [Int.tmod_eq_emod_of_nonneg];done)),H',⟨Nat.le_refl _⟩,⟨by (with_reducible repeat (first|apply yH|apply yI|apply yJ));exact HO234.out⟩,⟨by repeat (first|(with_reducible first|exact HB.out|apply yA|apply yB|apply yC)|exact HB.out)⟩⟩
 case round =>
  clear H'
  try clear c2
  try clear p2
  obtain ⟨x4_1,x5_1,rfl,HA,HK1,HO_4,HB⟩:=hrel
  cases gk with
  | zero=>exact absurd HA.out (by simp [spec_l1Signs.l0])
  | succ k1 =>
   have H:=HA.out
   clear HA
   simp only [spec_l1Signs.l0] at H
   by_cases c4:x5_1<(a0.size:Int)
   ·rw [if_pos c4] at H
    have c4b0:decide (x5_1<(a0.size:Int))=true:=decide_eq_true c4
    clear c4
    by_cases c5:0≤x5_1
    ·rw [if_pos c5] at H
     have c5b0:decide (0≤x5_1)=true:=decide_eq_true c5
     clear c5
     by_cases c7:(bt a0 x5_1)=48
     ·rw [if_pos c7] at H
      have c7b0:((bt a0 x5_1) == 48)=true:=beq_iff_eq.mpr c7
      have c7b1:((bt a0 x5_1) != 48)=false:=bne_eq_false_iff_eq.mpr c7
      clear c7
      by_cases c9:x4_1.length<140737488355328
      ·rw [if_pos c9] at H
       have LMc9:=Aside0.mk c9
       clear c9
       obtain ⟨y235,hy235⟩:∃ y_:List Bool,y_=(x4_1++[((bt a0 x5_1) == 49)]):=⟨_,rfl⟩
       replace H:(spec_l1Signs.l0 k1 a0 y235 (wrap64 (x5_1+1)))=some (r1,r2):=by first|(rw [hy235];with_reducible exact H)|(have H2_:=(Option.bind_some _ _).symm.trans H;rw [hy235];with_reducible exact H2_)|(have H2_:=(Option.bind_some _ _).symm.trans H;with_reducible exact H2_)|with_reducible exact H|(rw [hy235];exact H)|exact H
       have Ny235:=Aside0.mk hy235
       clear hy235
       have H':=Aside0.mk H
       clear H
       have p6:0≤(x5_1:Int):=of_decide_eq_true (by first|(with_reducible assumption)|assumption)
       have q6:x5_1<(a0.size:Int):=of_decide_eq_true (by first|(with_reducible assumption)|assumption)
       have hx6:=bt_at a0 x5_1
       replace p6:=eq_true p6
       replace q6:=eq_true q6
       have p8:0≤(x5_1:Int):=of_decide_eq_true (by first|(with_reducible assumption)|assumption)
       have q8:x5_1<(a0.size:Int):=of_decide_eq_true (by first|(with_reducible assumption)|assumption)
       have hx8:=bt_at a0 x5_1
       replace p8:=eq_true p8
       replace q8:=eq_true q8
       go_wp2_with (first|((with_reducible refine gate_builtin (b:=.append) (xs:=#[.tmp 24,.tmp 29]) rfl ?_);at_builtin;refine Kd.R_append Kd.bool (w0:=w) w.heap.size rfl (.tmp 24) (.tmp 29) 31 4 (.bool false) 1 rfl Try.underlying31 info4 rfl (by decide) (by omega) u4 x4_1 ((bt a0 x5_1) == 49) [.bool ((bt a0 x5_1) == 49)] (fun _=>True) (fun _=>False) rfl rfl ?aP (fun _ hk=>hk.elim) ?aF ?aO ?aB ?aS ?aL ?_;(case aP=>exact rfl);(case aB=>exact (by repeat (first|(with_reducible first|exact HB.out|apply yA|apply yB|apply yC)|exact HB.out)));(case aF=>exact (fun _ _=>trivial));(case aO=>exact (by (with_reducible repeat (first|apply yH|apply yI|apply yJ));exact HO_4.out));(case aS=>exact (yQ (by repeat (first|(with_reducible first|exact HB.out|apply yA|apply yB|apply yC)|exact HB.out))));(case aL=>have:=LMc9.out;omega);intro v236 w10 ho hb hg hat;rw [← Ny235.out] at ho;have n0_:=Aside0.mk (hb);have n1_:=Aside0.mk (ho);clear HB;clear HO_4;have HB:=n0_;have HO237:=n1_;clear n0_ n1_;clear ho hb hg hat))
       go_roundg k1
       case measure=>have:=HK1.out;omega
       case rel=>exact ⟨(y235),(wrap64 (x5_1+1)),(by first|rfl|(simp;done)|(simp [*];done)|(simp [Int.tmod_eq_emod_of_nonneg];done)),H',⟨by have:=HK1.out;omega⟩,⟨by (with_reducible repeat (first|apply yH|apply yI|apply yJ));exact HO237.out⟩,⟨by repeat (first|(with_reducible first|exact HB.out|apply yA|apply yB|apply yC)|exact HB.out)⟩⟩
      ·rw [if_neg c9] at H
       exact absurd H (by simp)
     ·rw [if_neg c7] at H
      have c7b0:((bt a0 x5_1) == 48)=false:=beq_eq_false_iff_ne.mpr c7
      have c7b1:((bt a0 x5_1) != 48)=true:=bne_iff_ne.mpr c7
      by_cases c12:(bt a0 x5_1)=49
      ·rw [if_pos c12] at H
       have c12b0:((bt a0 x5_1) == 49)=true:=beq_iff_eq.mpr c12
       have c12b1:((bt a0 x5_1) != 49)=false:=bne_eq_false_iff_eq.mpr c12
       clear c12
       by_cases c14:x4_1.length<140737488355328
       ·rw [if_pos c14] at H
        have LMc14:=Aside0.mk c14
        clear c14
        obtain ⟨y238,hy238⟩:∃ y_:List Bool,y_=(x4_1++[true]):=⟨_,rfl⟩
        replace H:(spec_l1Signs.l0 k1 a0 y238 (wrap64 (x5_1+1)))=some (r1,r2):=by first|(rw [hy238];with_reducible exact H)|(have H2_:=(Option.bind_some _ _).symm.trans H;rw [hy238];with_reducible exact H2_)|(have H2_:=(Option.bind_some _ _).symm.trans H;with_reducible exact H2_)|with_reducible exact H|(rw [hy238];exact H)|exact H
        have Ny238:=Aside0.mk hy238
        clear hy238
        have H':=Aside0.mk H
        clear H
        have p6:0≤(x5_1:Int):=of_decide_eq_true (by first|(with_reducible assumption)|assumption)
        have q6:x5_1<(a0.size:Int):=of_decide_eq_true (by first|(with_reducible assumption)|assumption)
        have hx6:=bt_at a0 x5_1
        replace p6:=eq_true p6
        replace q6:=eq_true q6
        have p11:0≤(x5_1:Int):=of_decide_eq_true (by first|(with_reducible assumption)|assumption)
        have q11:x5_1<(a0.size:Int):=of_decide_eq_true (by first|(with_reducible assumption)|assumption)
        have hx11:=bt_at a0 x5_1
        replace p11:=eq_true p11
        replace q11:=eq_true q11
        have p13:0≤(x5_1:Int):=of_decide_eq_true (by first|(with_reducible assumption)|assumption)
        have q13:x5_1<(a0.size:Int):=of_decide_eq_true (by first|(with_reducible assumption)|assumption)
        have hx13:=bt_at a0 x5_1
        replace p13:=eq_true p13
        replace q13:=eq_true q13
        go_wp2_with (first|((with_reducible refine gate_builtin (b:=.append) (xs:=#[.tmp 24,.tmp 29]) rfl ?_);at_builtin;refine Kd.R_append Kd.bool (w0:=w) w.heap.size rfl (.tmp 24) (.tmp 29) 31 4 (.bool false) 1 rfl Try.underlying31 info4 rfl (by decide) (by omega) u4 x4_1 true [.bool true] (fun _=>True) (fun _=>False) rfl rfl ?aP (fun _ hk=>hk.elim) ?aF ?aO ?aB ?aS ?aL ?_;(case aP=>exact rfl);(case aB=>exact (by repeat (first|(with_reducible first|exact HB.out|apply yA|apply yB|apply yC)|exact HB.out)));(case aF=>exact (fun _ _=>trivial));(case aO=>exact (by (with_reducible repeat (first|apply yH|apply yI|apply yJ));exact HO_4.out));(case aS=>exact (yQ (by repeat (first|(with_reducible first|exact HB.out|apply yA|apply yB|apply yC)|exact HB.out))));(case aL=>have:=LMc14.out;omega);intro v239 w15 ho hb hg hat;rw [← Ny238.out] at ho;have n0_:=Aside0.mk (hb);have n1_:=Aside0.mk (ho);clear HB;clear HO_4;have HB:=n0_;have HO240:=n1_;clear n0_ n1_;clear ho hb hg hat))
        go_roundg k1
        case measure=>have:=HK1.out;omega
        case rel=>exact ⟨(y238),(wrap64 (x5_1+1)),(by first|rfl|(simp;done)|(simp [*];done)|(simp [Int.tmod_eq_emod_of_nonneg];done)),H',⟨by have:=HK1.out;omega⟩,⟨by (with_reducible repeat (first|apply yH|apply yI|apply yJ));exact HO240.out⟩,⟨by repeat (first|(with_reducible first|exact HB.out|apply yA|apply yB|apply yC)|exact HB.out)⟩⟩
       ·rw [if_neg c14] at H
        exact absurd H (by simp)
      ·rw [if_neg c12] at H
       have c12b0:((bt a0 x5_1) == 49)=false:=beq_eq_false_iff_ne.mpr c12
       have c12b1:((bt a0 x5_1) != 49)=true:=bne_iff_ne.mpr c12
       obtain ⟨y241,hy241⟩:∃ y_:List Bool,y_=(([]:List Bool)):=⟨_,rfl⟩
       replace H:(some (y241,false))=some (r1,r2):=by first|(rw [hy241];with_reducible exact H)|(have H2_:=(Option.bind_some _ _).symm.trans H;rw [hy241];with_reducible exact H2_)|(have H2_:=(Option.bind_some _ _).symm.trans H;with_reducible exact H2_)|with_reducible exact H|(rw [hy241];exact H)|exact H
       have Ny241:=Aside0.mk hy241
       clear hy241
       simp only [Option.some.injEq,Prod.mk.injEq] at H
       obtain ⟨rfl,rfl⟩:=H
       have p6:0≤(x5_1:Int):=of_decide_eq_true (by first|(with_reducible assumption)|assumption)
       have q6:x5_1<(a0.size:Int):=of_decide_eq_true (by first|(with_reducible assumption)|assumption)
       have hx6:=bt_at a0 x5_1
       replace p6:=eq_true p6
       replace q6:=eq_true q6
       have p11:0≤(x5_1:Int):=of_decide_eq_true (by first|(with_reducible assumption)|assumption)
       have q11:x5_1<(a0.size:Int):=of_decide_eq_true (by first|(with_reducible assumption)|assumption)
       have hx11:=bt_at a0 x5_1
       replace p11:=eq_true p11
       replace q11:=eq_true q11
       go_wp2_with (first|((with_reducible refine gate_dst (N:=23) rfl ?_);refine Kd.R_lit Kd.bool _ 4 ?hg (N:=23) ?hd (xs:=([]:List Bool)) (inner:=[]) (ok:=fun _=>True) (okp:=fun _=>True) ?hr ?hp (fun _ hk=>hk) trivial (Below.refl _ _) (Nat.le_refl _) (by simp) ?_;(case hd=>rfl);(case hg=>rfl);(case hr=>first|(go_simp;done)|(go_simp;rfl));(case hp=>exact (Reps.none _ _));intro v242 w16 ho17 hb hg_ hnew_;clear hg_ hnew_;(first|rw [← Ny241.out] at ho17|(simp only [Int.reduceToNat] at ho17;rw [← Ny241.out] at ho17));have n0_:=Aside0.mk (Kd.R_elder' (by (with_reducible repeat (first|apply yH|apply yI|apply yJ));exact HO_4.out) (Kd.R_base ho17) hb);have n1_:=Aside0.mk (Kd.R_lower (Kd.R_new' ho17 (Kd.R_lt (by (with_reducible repeat (first|apply yH|apply yI|apply yJ));exact HO_4.out))) (yQ (by repeat (first|(with_reducible first|exact HB.out|apply yA|apply yB|apply yC)|exact HB.out))));have n2_:=Aside0.mk (yP (by repeat (first|(with_reducible first|exact HB.out|apply yA|apply yB|apply yC)|exact HB.out)) hb);clear HO_4;clear HB;have HO_4:=n0_;have HO243:=n1_;have HB:=n2_;clear n0_ n1_ n2_;clear hb ho17))
       go_ret2
       exact ⟨_,by first|rfl|(simp [errW_none,errW_some]<;>rfl)|(simp [*,errW_none,errW_some]<;>rfl)|(simp [errW_none,errW_some];exact ⟨rfl,rfl⟩),by (with_reducible repeat (first|apply yH|apply yI|apply yJ));exact Kd.R_mono HO243.out (fun _ hk=>trivial),by repeat (first|(with_reducible first|exact HB.out|apply yA|apply yB|apply yC)|exact HB.out)⟩
    ·rw [if_neg c5] at H
     exact absurd H (by simp)
   ·rw [if_neg c4] at H
    have c4b0:decide (x5_1<(a0.size:Int))=false:=decide_eq_false c4
    clear c4
    simp only [Option.some.injEq,Prod.mk.injEq] at H
    obtain ⟨rfl,rfl⟩:=H
    go_wp2
    go_ret2
    exact ⟨_,by first|rfl|(simp [errW_none,errW_some]<;>rfl)|(simp [*,errW_none,errW_some]<;>rfl)|(simp [errW_none,errW_some];exact ⟨rfl,rfl⟩),by (with_reducible repeat (first|apply yH|apply yI|apply yJ));exact HO_4.out,by repeat (first|(with_reducible first|exact HB.out|apply yA|apply yB|apply yC)|exact HB.out)⟩

end Go.Proofs.Ytnmkinnfbbehnaa.P

namespace Go.Proofs.Ytnmkinnfbbehnaa.P
open Go.RowKit Go.Proofs.YtnmkinnfbbehnaaW.PrintWords Go.Proofs.YtnmkinnfbbehnaaW.PrintLast Go.Proofs.YtnmkinnfbbehnaaW.PrintMore
attribute [local go_sem] max2_int min2_int max_two min_two max_three min_three max_four min_four   -- for this text's walks alone
set_option linter.unusedVariables false
set_option linter.unusedSimpArgs false

/-! ### spec_l1Read: function 22 -/
mutual
def spec_l1Read.j1:Nat→ByteArray→Int→List Bool→List Bool→Option (List Bool × List Bool × Bool)
 | 0,_,_,_,_=>none
 | k+1,x0,x5,x252000,x252001=>if (wrap64 (x5+2)) ≥ (x0.size:Int) then (spec_l1Read.j2 k x0 x5 true x252000 x252001) else (if 0≤(wrap64 ((x0.size:Int) - 1)) then (if (wrap64 ((x0.size:Int) - 1))<(x0.size:Int) then (spec_l1Read.j2 k x0 x5 ((bt x0 (wrap64 ((x0.size:Int) - 1))) != 41) x252000 x252001) else (none)) else (none))
def spec_l1Read.j2:Nat→ByteArray→Int→Bool→List Bool→List Bool→Option (List Bool × List Bool × Bool)
 | 0,_,_,_,_,_=>none
 | k+1,x0,x5,x37,x252000,x252001=>if x37=true then (some (x252000,x252001,false)) else (if 0≤x5 then (if x5≤(x0.size:Int) then ((spec_l1Signs.f k (x0.extract 0 (x5:Int).toNat)).bind fun bt252=>(if 0≤(wrap64 (x5+1)) then (if (wrap64 (x5+1))≤(wrap64 ((x0.size:Int) - 1)) then (if (wrap64 ((x0.size:Int) - 1))≤(x0.size:Int) then ((spec_l1Signs.f k (x0.extract ((wrap64 (x5+1)):Int).toNat ((wrap64 ((x0.size:Int) - 1)):Int).toNat)).bind fun bt256=>(if bt252.2=true then (if bt256.2=true then (if (bt252.1.length:Int) > 60 then (some (x252000,x252001,false)) else (if (bt256.1.length:Int) > 60 then (some (x252000,x252001,false)) else (some (bt252.1,bt256.1,true)))) else (some (x252000,x252001,false))) else (some (x252000,x252001,false)))) else (none)) else (none)) else (none))) else (none)) else (none))
def spec_l1Read.l0:Nat→ByteArray→Int→List Bool→List Bool→Option (List Bool × List Bool × Bool)
 | 0,_,_,_,_=>none
 | k+1,x0,x5,x252000,x252001=>if x5<(x0.size:Int) then (if 0≤x5 then (if (bt x0 x5)=40 then (spec_l1Read.j1 k x0 x5 x252000 x252001) else (spec_l1Read.l0 k x0 (wrap64 (x5+1)) x252000 x252001)) else (none)) else (spec_l1Read.j1 k x0 x5 x252000 x252001)
end
def spec_l1Read.f (k:Nat) (a0:ByteArray):Option (List Bool × List Bool × Bool):=spec_l1Read.l0 k a0 0 (([]:List Bool)) (([false]:List Bool))
theorem spec_l1Read.mono_l:∀ k,(∀ y0 y1 y2 y3,LeO (spec_l1Read.j1 k y0 y1 y2 y3) (spec_l1Read.j1 (k+1) y0 y1 y2 y3))∧(∀ y0 y1 y2 y3 y4,LeO (spec_l1Read.j2 k y0 y1 y2 y3 y4) (spec_l1Read.j2 (k+1) y0 y1 y2 y3 y4))∧(∀ y0 y1 y2 y3,LeO (spec_l1Read.l0 k y0 y1 y2 y3) (spec_l1Read.l0 (k+1) y0 y1 y2 y3))
 | 0=>⟨fun _ _ _ _ r h=>by simp [spec_l1Read.j1] at h,fun _ _ _ _ _ r h=>by simp [spec_l1Read.j2] at h,fun _ _ _ _ r h=>by simp [spec_l1Read.l0] at h⟩
 | k+1=>by
  obtain ⟨ih0,ih1,ih2⟩:=spec_l1Read.mono_l k
  refine ⟨?_,?_,?_⟩
  ·intro y0 y1 y2 y3
   unfold spec_l1Read.j1
   repeat' first
   | (with_reducible exact ih0 _ _ _ _)
   | (with_reducible exact ih1 _ _ _ _ _)
   | (with_reducible exact ih2 _ _ _ _)
   | (with_reducible exact spec_l1Signs.mono _ _)
   | (with_reducible exact LeO.refl _)
   | (with_reducible exact LeO.none _)
   | (with_reducible refine LeO.ite ?_ ?_)
   | (with_reducible refine LeO.bind ?_ (fun _=>?_))
   | exact ih0 _ _ _ _
   | exact ih1 _ _ _ _ _
   | exact ih2 _ _ _ _
   | exact spec_l1Signs.mono _ _
   | exact LeO.none _
   | refine LeO.ite ?_ ?_
   | refine LeO.bind ?_ (fun _=>?_)
  ·intro y0 y1 y2 y3 y4
   unfold spec_l1Read.j2
   repeat' first
   | (with_reducible exact ih0 _ _ _ _)
   | (with_reducible exact ih1 _ _ _ _ _)
   | (with_reducible exact ih2 _ _ _ _)
   | (with_reducible exact spec_l1Signs.mono _ _)
   | (with_reducible exact LeO.refl _)
   | (with_reducible exact LeO.none _)
   | (with_reducible refine LeO.ite ?_ ?_)
   | (with_reducible refine LeO.bind ?_ (fun _=>?_))
   | exact ih0 _ _ _ _
   | exact ih1 _ _ _ _ _
   | exact ih2 _ _ _ _
   | exact spec_l1Signs.mono _ _
   | exact LeO.none _
   | refine LeO.ite ?_ ?_
   | refine LeO.bind ?_ (fun _=>?_)
  ·intro y0 y1 y2 y3
   unfold spec_l1Read.l0
   repeat' first
   | (with_reducible exact ih0 _ _ _ _)
   | (with_reducible exact ih1 _ _ _ _ _)
   | (with_reducible exact ih2 _ _ _ _)
   | (with_reducible exact spec_l1Signs.mono _ _)
   | (with_reducible exact LeO.refl _)
   | (with_reducible exact LeO.none _)
   | (with_reducible refine LeO.ite ?_ ?_)
   | (with_reducible refine LeO.bind ?_ (fun _=>?_))
   | exact ih0 _ _ _ _
   | exact ih1 _ _ _ _ _
   | exact ih2 _ _ _ _
   | exact spec_l1Signs.mono _ _
   | exact LeO.none _
   | refine LeO.ite ?_ ?_
   | refine LeO.bind ?_ (fun _=>?_)
theorem spec_l1Read.mono:∀ a0 k,LeO (spec_l1Read.f k a0) (spec_l1Read.f (k+1) a0):=by
 intro a0 k
 obtain ⟨ih0,ih1,ih2⟩:=spec_l1Read.mono_l k
 unfold spec_l1Read.f
 repeat' first
   | (with_reducible exact ih0 _ _ _ _)
   | (with_reducible exact ih1 _ _ _ _ _)
   | (with_reducible exact ih2 _ _ _ _)
   | (with_reducible exact spec_l1Signs.mono _ _)
   | (with_reducible exact LeO.refl _)
   | (with_reducible exact LeO.none _)
   | (with_reducible refine LeO.ite ?_ ?_)
   | (with_reducible refine LeO.bind ?_ (fun _=>?_))
   | exact ih0 _ _ _ _
   | exact ih1 _ _ _ _ _
   | exact ih2 _ _ _ _
   | exact spec_l1Signs.mono _ _
   | exact LeO.none _
   | refine LeO.ite ?_ ?_
   | refine LeO.bind ?_ (fun _=>?_)
set_option maxHeartbeats 8000000 in
set_option maxRecDepth 100000 in
theorem spec_l1Read.calls (k:Nat) (a0:ByteArray) (r1:List Bool) (r2:List Bool) (r3:Bool) (w:World) (h:spec_l1Read.f k a0=some (r1,r2,r3)) :
  Calls Try.prog 22 #[.string a0] w fun e w'=>∃ v0_ v1_:Value,e=.returned (.tuple #[.agg #[v0_,v1_],.bool r3])∧Kd.R Kd.bool 4 w' w.heap.size (fun k_=>some k_≠(v1_:Value).ownBlock) v0_ r1∧Kd.R Kd.bool 4 w' w.heap.size (fun k_=>some k_≠(v0_:Value).ownBlock) v1_ r2∧Below w.heap.size w w':=by
 have hu41:=Try.underlying41
 have HB:=Aside0.mk (Below.refl w.heap.size w)
 have H:(spec_l1Read.l0 k a0 0 (([]:List Bool)) (([false]:List Bool)))=some (r1,r2,r3):=h
 clear h
 obtain ⟨y245,hy245⟩:∃ y_:List Bool,y_=(([]:List Bool)):=⟨_,rfl⟩
 replace H:(spec_l1Read.l0 k a0 0 y245 (([false]:List Bool)))=some (r1,r2,r3):=by first|(rw [hy245];with_reducible exact H)|(have H2_:=(Option.bind_some _ _).symm.trans H;rw [hy245];with_reducible exact H2_)|(have H2_:=(Option.bind_some _ _).symm.trans H;with_reducible exact H2_)|with_reducible exact H|(rw [hy245];exact H)|exact H
 have Ny245:=Aside0.mk hy245
 clear hy245
 obtain ⟨y248,hy248⟩:∃ y_:List Bool,y_=(([false]:List Bool)):=⟨_,rfl⟩
 replace H:(spec_l1Read.l0 k a0 0 y245 y248)=some (r1,r2,r3):=by first|(rw [hy248];with_reducible exact H)|(have H2_:=(Option.bind_some _ _).symm.trans H;rw [hy248];with_reducible exact H2_)|(have H2_:=(Option.bind_some _ _).symm.trans H;with_reducible exact H2_)|with_reducible exact H|(rw [hy248];exact H)|exact H
 have Ny248:=Aside0.mk hy248
 clear hy248
 have HC2:=Aside0.mk H
 clear H
 go_enter Try.func22,Try.ntmps22
 go_upto_block 0 with (first|((with_reducible refine gate_dst (N:=2) rfl ?_);(try (refine gate_guard (by rfl) ?_;dsimp only));refine box_event ?hg (N:=2) ?hd (cs:=#[.slice none 0 0,.slice none 0 0]) (t:=41) ?hr ?_;(case hd=>rfl);(case hg=>rfl);(case hr=>first|(go_simp;done)|(go_simp;rfl));intro gb244 hg w3 hbox hb;have n0_:=Aside0.mk (yP (by repeat (first|(with_reducible first|exact HB.out|apply yA|apply yB|apply yC)|exact HB.out)) hb);have n1_:=Aside0.mk (hbox);have n2_:=Aside0.mk ((by rw [hg];exact (yQ (by repeat (first|(with_reducible first|exact HB.out|apply yA|apply yB|apply yC)|exact HB.out))):w.heap.size≤gb244));have n3_:=Aside0.mk ((by rw [hg];exact (yQ (by repeat (first|(with_reducible first|exact HB.out|apply yA|apply yB|apply yC)|exact HB.out))):w.heap.size≤gb244));clear HB;have HB:=n0_;have BK244:=n1_;have GW244:=n2_;have GE244:=n3_;clear n0_ n1_ n2_ n3_;clear hb hbox hg)|((with_reducible refine gate_dst (N:=10) rfl ?_);(try (refine gate_guard (by rfl) ?_;dsimp only));refine Kd.R_lit Kd.bool _ 4 ?hg (N:=10) ?hd (xs:=([]:List Bool)) (inner:=[]) (ok:=fun _=>True) (okp:=fun _=>True) ?hr ?hp (fun _ hk=>hk) trivial (Below.refl _ _) (Nat.le_refl _) (by simp) ?_;(case hd=>rfl);(case hg=>rfl);(case hr=>first|(go_simp;done)|(go_simp;rfl));(case hp=>exact (Reps.none _ _));intro v246 w4 ho5 hb hg_ hnew_;clear hg_ hnew_;(first|rw [← Ny245.out] at ho5|(simp only [Int.reduceToNat] at ho5;rw [← Ny245.out] at ho5));have n0_:=Aside0.mk (Kd.R_lower ho5 (yQ (by repeat (first|(with_reducible first|exact HB.out|apply yA|apply yB|apply yC|refine yD ?_ GE244.out)|exact HB.out))));have n1_:=Aside0.mk (blk_below (g:=gb244) (o:=.cells #[.slice none 0 0,.slice none 0 0] 41 (0,0)) (by (with_reducible repeat (first|refine yE ?_ _|refine yF ?_|refine yG ?_ _));exact BK244.out) hb);have n2_:=Aside0.mk (yP (by repeat (first|(with_reducible first|exact HB.out|apply yA|apply yB|apply yC|refine yD ?_ GE244.out)|exact HB.out)) hb);clear BK244;clear HB;have HO247:=n0_;have BK244:=n1_;have HB:=n2_;clear n0_ n1_ n2_;clear hb ho5)|((with_reducible refine gate_dst (N:=11) rfl ?_);(try (refine gate_guard (by rfl) ?_;dsimp only));refine Kd.R_lit Kd.bool _ 4 ?hg (N:=11) ?hd (xs:=([false]:List Bool)) (inner:=[.bool false]) (ok:=fun _=>True) (okp:=fun _=>True) ?hr ?hp (fun _ hk=>hk) trivial (Below.refl _ _) (Nat.le_refl _) (by simp) ?_;(case hd=>rfl);(case hg=>rfl);(case hr=>first|(go_simp;done)|(go_simp;rfl));(case hp=>exact (Reps.one (show Kd.M Kd.bool _ _ _ false [.bool false] from rfl) (Reps.none _ _)));intro v249 w6 ho7 hb hg_ hnew_;clear hg_ hnew_;(first|rw [← Ny248.out] at ho7|(simp only [Int.reduceToNat] at ho7;rw [← Ny248.out] at ho7));have n0_:=Aside0.mk (Kd.R_elder' (by (with_reducible repeat (first|apply yH|apply yI|apply yJ));exact HO247.out) (Kd.R_base ho7) hb);have n1_:=Aside0.mk (Kd.R_lower (Kd.R_new' ho7 (Kd.R_lt (by (with_reducible repeat (first|apply yH|apply yI|apply yJ));exact HO247.out))) (yQ (by repeat (first|(with_reducible first|exact HB.out|apply yA|apply yB|apply yC|refine yD ?_ GE244.out)|exact HB.out))));have n2_:=Aside0.mk (blk_below (g:=gb244) (o:=.cells #[.slice none 0 0,.slice none 0 0] 41 (0,0)) (by (with_reducible repeat (first|refine yE ?_ _|refine yF ?_|refine yG ?_ _));exact BK244.out) hb);have n3_:=Aside0.mk (yP (by repeat (first|(with_reducible first|exact HB.out|apply yA|apply yB|apply yC|refine yD ?_ GE244.out)|exact HB.out)) hb);clear HO247;clear BK244;clear HB;have HO247:=n0_;have HO250:=n1_;have BK244:=n2_;have HB:=n3_;clear n0_ n1_ n2_ n3_;clear hb ho7;obtain ⟨Ao8,co8,eo8⟩:=Kd.R_slice HO250.out;subst eo8;obtain ⟨Ao9,co9,eo9⟩:=Kd.R_slice HO247.out;subst eo9)|((with_reducible refine gate_dst (N:=4) rfl ?_);(try (refine gate_guard (by rfl) ?_;dsimp only));refine box_event ?hg (N:=4) ?hd (cs:=#[.slice none 0 0,.slice none 0 0]) (t:=41) ?hr ?_;(case hd=>rfl);(case hg=>rfl);(case hr=>first|(go_simp;done)|(go_simp;rfl));intro gb251 hg w10 hbox hb;have n0_:=Aside0.mk (Kd.R_below (by (with_reducible repeat (first|apply yH|apply yI|apply yJ));exact HO247.out) hb);have n1_:=Aside0.mk (Kd.R_below (by (with_reducible repeat (first|apply yH|apply yI|apply yJ));exact HO250.out) hb);have n2_:=Aside0.mk (blk_below (g:=gb244) (o:=.cells #[.slice none 0 0,.slice none 0 0] 41 (0,0)) (by (with_reducible repeat (first|refine yE ?_ _|refine yF ?_|refine yG ?_ _));exact BK244.out) hb);have n3_:=Aside0.mk (yP (by repeat (first|(with_reducible first|exact HB.out|apply yA|apply yB|apply yC|refine yD ?_ GE244.out)|exact HB.out)) hb);have n4_:=Aside0.mk (hbox);have n5_:=Aside0.mk ((by rw [hg];exact (yQ (by repeat (first|(with_reducible first|exact HB.out|apply yA|apply yB|apply yC|refine yD ?_ GE244.out)|exact HB.out))):w.heap.size≤gb251));have n6_:=Aside0.mk ((by rw [hg];exact (yQ (by repeat (first|(with_reducible first|exact HB.out|apply yA|apply yB|apply yC|refine yD ?_ GE244.out)|exact HB.out))):w.heap.size≤gb251));have n7_:=Aside0.mk ((by rw [hg];exact Nat.ne_of_lt (blk_lt (g:=gb244) (o:=.cells #[.slice none 0 0,.slice none 0 0] 41 (0,0)) (by (with_reducible repeat (first|refine yE ?_ _|refine yF ?_|refine yG ?_ _));exact BK244.out)):gb244≠gb251));have n8_:=Aside0.mk ((by rw [hg];exact Nat.ne_of_gt (blk_lt (g:=gb244) (o:=.cells #[.slice none 0 0,.slice none 0 0] 41 (0,0)) (by (with_reducible repeat (first|refine yE ?_ _|refine yF ?_|refine yG ?_ _));exact BK244.out)):gb251≠gb244));clear HO247;clear HO250;clear BK244;clear HB;have HO247:=n0_;have HO250:=n1_;have BK244:=n2_;have HB:=n3_;have BK251:=n4_;have GW251:=n5_;have GE251:=n6_;have NB244_251:=n7_;have NB251_244:=n8_;clear n0_ n1_ n2_ n3_ n4_ n5_ n6_ n7_ n8_;clear hb hbox hg;have hnb11:=NB251_244.out;have hnc11:=NB244_251.out;have hcz12_0:w10.cell? ⟨gb251,0,none⟩=some (.slice none 0 0):=(blk_cell BK251.out 0).trans rfl;have hcz12_1:w10.cell? ⟨gb251,1,none⟩=some (.slice none 0 0):=(blk_cell BK251.out 1).trans rfl;have hfz12_0:=blk_frozen BK251.out 0;have hfz12_1:=blk_frozen BK251.out 1))
 (try simp only [Act.put,yK,yL,yM])
 go_cut [5] (fun v5 wc=>∃ (kq:Nat) (x5_1:Int),v5=.int .i64 x5_1∧Aside0 (spec_l1Read.j1 kq a0 x5_1 y245 y248=some (r1,r2,r3))∧Aside0 (kq≤k)∧Aside0 (Kd.R Kd.bool 4 wc w.heap.size (fun k_=>some k_≠((.slice Ao8 y248.length co8):Value).ownBlock) (.slice Ao9 y245.length co9) y245)∧Aside0 (Kd.R Kd.bool 4 wc w.heap.size (fun k_=>some k_≠((.slice Ao9 y245.length co9):Value).ownBlock) (.slice Ao8 y248.length co8) y248)∧Aside0 (wc.heap[gb244]?=some (.cells #[(.slice none 0 0),(.slice none 0 0)] 41 (0,0)))∧Aside0 (wc.heap[gb251]?=some (.cells #[(.slice Ao9 y245.length co9),(.slice Ao8 y248.length co8)] 41 (0,0)))∧Aside0 (Below w.heap.size w wc))
 case first =>
  have H:=HC2.out
  clear HC2
  have H':=Aside0.mk H
  clear H
  go_wp2
  go_loopg [5] k (fun kq v5 w'=>∃ (x5_1:Int),v5=.int .i64 x5_1∧Aside0 (spec_l1Read.l0 kq a0 x5_1 y245 y248=some (r1,r2,r3))∧Aside0 (kq≤k)∧Aside0 (Kd.R Kd.bool 4 w' w.heap.size (fun k_=>some k_≠((.slice Ao8 y248.length co8):Value).ownBlock) (.slice Ao9 y245.length co9) y245)∧Aside0 (Kd.R Kd.bool 4 w' w.heap.size (fun k_=>some k_≠((.slice Ao9 y245.length co9):Value).ownBlock) (.slice Ao8 y248.length co8) y248)∧Aside0 (w'.heap[gb244]?=some (.cells #[(.slice none 0 0),(.slice none 0 0)] 41 (0,0)))∧Aside0 (w'.heap[gb251]?=some (.cells #[(.slice Ao9 y245.length co9),(.slice Ao8 y248.length co8)] 41 (0,0)))∧Aside0 (Below w.heap.size w w'))
  case atStart=>exact ⟨(0),(by first|rfl|(simp;done)|(simp [*];done)|(simp [Int.tmod_eq_emod_of_nonneg];done)),H',⟨Nat.le_refl _⟩,⟨by (with_reducible repeat (first|apply yH|apply yI|apply yJ));exact Kd.R_mono (Kd.R_far (p:=⟨gb251,1,none⟩) (Kd.R_far (p:=⟨gb251,0,none⟩) (Kd.R_types HO247.out BK251.out (by decide)) (fun _ hk=>hk.2) (.slice Ao9 y245.length co9)) (fun _ hk=>hk.2) (.slice Ao8 y248.length co8)) (fun _ hk=>hk.1.2)⟩,⟨by (with_reducible repeat (first|apply yH|apply yI|apply yJ));exact Kd.R_mono (Kd.R_far (p:=⟨gb251,1,none⟩) (Kd.R_far (p:=⟨gb251,0,none⟩) (Kd.R_types HO250.out BK251.out (by decide)) (fun _ hk=>hk.2) (.slice Ao9 y245.length co9)) (fun _ hk=>hk.2) (.slice Ao8 y248.length co8)) (fun _ hk=>hk.1.2)⟩,⟨by (with_reducible repeat (first|refine yE ?_ _|refine yF ?_|refine yG ?_ _));refine blk_far ?_ NB244_251.out _;(with_reducible repeat (first|refine yE ?_ _|refine yF ?_|refine yG ?_ _));refine blk_far ?_ NB244_251.out _;(with_reducible repeat (first|refine yE ?_ _|refine yF ?_|refine yG ?_ _));exact BK244.out⟩,⟨by (with_reducible repeat (first|refine yE ?_ _|refine yF ?_|refine yG ?_ _));refine blk_put (cs:=#[.slice Ao9 y245.length co9,.slice none 0 0]) ?_ 1 _ rfl;(with_reducible repeat (first|refine yE ?_ _|refine yF ?_|refine yG ?_ _));refine blk_put (cs:=#[.slice none 0 0,.slice none 0 0]) ?_ 0 _ rfl;(with_reducible repeat (first|refine yE ?_ _|refine yF ?_|refine yG ?_ _));exact BK251.out⟩,⟨by repeat (first|(with_reducible first|exact HB.out|apply yA|apply yB|apply yC|refine yD ?_ GE244.out|refine yD ?_ GE251.out)|exact HB.out)⟩⟩
  case round =>
   clear H'
   try clear c1
   try clear c2
   try clear p2
   try clear c11
   try clear hcz12_0
   try clear hcz12_1
   try clear hfz12_0
   try clear hfz12_1
   obtain ⟨x5_1,rfl,HA,HK1,HO_252000,HO_252001,BK244,BK251,HB⟩:=hrel
   cases gk with
   | zero=>exact absurd HA.out (by simp [spec_l1Read.l0])
   | succ k1 =>
    have H:=HA.out
    clear HA
    simp only [spec_l1Read.l0] at H
    by_cases c13:x5_1<(a0.size:Int)
    ·rw [if_pos c13] at H
     have c13b0:decide (x5_1<(a0.size:Int))=true:=decide_eq_true c13
     clear c13
     (first|rw [c13b0]|(simp only [i64_w,i32_w];rw [c13b0])|skip)
     by_cases c14:0≤x5_1
     ·rw [if_pos c14] at H
      have c14b0:decide (0≤x5_1)=true:=decide_eq_true c14
      clear c14
      by_cases c16:(bt a0 x5_1)=40
      ·rw [if_pos c16] at H
       have c16b0:((bt a0 x5_1) == 40)=true:=beq_iff_eq.mpr c16
       have c16b1:((bt a0 x5_1) != 40)=false:=bne_eq_false_iff_eq.mpr c16
       clear c16
       have H':=Aside0.mk H
       clear H
       have p15:0≤(x5_1:Int):=of_decide_eq_true (by first|(with_reducible assumption)|assumption)
       have q15:x5_1<(a0.size:Int):=of_decide_eq_true (by first|(with_reducible assumption)|assumption)
       have hx15:=bt_at a0 x5_1
       replace p15:=eq_true p15
       replace q15:=eq_true q15
       go_wp2
       go_meet
       case rel=>exact ⟨_,(x5_1),(by first|rfl|(simp;done)|(simp [*];done)|(simp [Int.tmod_eq_emod_of_nonneg];done)),H',⟨by have:=HK1.out;first|omega|exact Nat.le_refl _⟩,⟨by (with_reducible repeat (first|apply yH|apply yI|apply yJ));exact HO_252000.out⟩,⟨by (with_reducible repeat (first|apply yH|apply yI|apply yJ));exact HO_252001.out⟩,⟨by (with_reducible repeat (first|refine yE ?_ _|refine yF ?_|refine yG ?_ _));exact BK244.out⟩,⟨by (with_reducible repeat (first|refine yE ?_ _|refine yF ?_|refine yG ?_ _));exact BK251.out⟩,⟨by repeat (first|(with_reducible first|exact HB.out|apply yA|apply yB|apply yC|refine yD ?_ GE244.out|refine yD ?_ GE251.out)|exact HB.out)⟩⟩
      ·rw [if_neg c16] at H
       have c16b0:((bt a0 x5_1) == 40)=false:=beq_eq_false_iff_ne.mpr c16
       have c16b1:((bt a0 x5_1) != 40)=true:=bne_iff_ne.mpr c16
       have H':=Aside0.mk H
       clear H
       have p15:0≤(x5_1:Int):=of_decide_eq_true (by first|(with_reducible assumption)|assumption)
       have q15:x5_1<(a0.size:Int):=of_decide_eq_true (by first|(with_reducible assumption)|assumption)
       have hx15:=bt_at a0 x5_1
       replace p15:=eq_true p15
       replace q15:=eq_true q15
       go_wp2
       go_roundg k1
       case measure=>have:=HK1.out;omega
       case rel=>exact ⟨(wrap64 (x5_1+1)),(by first|rfl|(simp;done)|(simp [*];done)|(simp [Int.tmod_eq_emod_of_nonneg];done)),H',⟨by have:=HK1.out;omega⟩,⟨by (with_reducible repeat (first|apply yH|apply yI|apply yJ));exact HO_252000.out⟩,⟨by (with_reducible repeat (first|apply yH|apply yI|apply yJ));exact HO_252001.out⟩,⟨by (with_reducible repeat (first|refine yE ?_ _|refine yF ?_|refine yG ?_ _));exact BK244.out⟩,⟨by (with_reducible repeat (first|refine yE ?_ _|refine yF ?_|refine yG ?_ _));exact BK251.out⟩,⟨by repeat (first|(with_reducible first|exact HB.out|apply yA|apply yB|apply yC|refine yD ?_ GE244.out|refine yD ?_ GE251.out)|exact HB.out)⟩⟩
     ·rw [if_neg c14] at H
      exact absurd H (by simp)
    ·rw [if_neg c13] at H
     have c13b0:decide (x5_1<(a0.size:Int))=false:=decide_eq_false c13
     clear c13
     (first|rw [c13b0]|(simp only [i64_w,i32_w];rw [c13b0])|skip)
     have H':=Aside0.mk H
     clear H
     go_wp2
     go_meet
     case rel=>exact ⟨_,(x5_1),(by first|rfl|(simp;done)|(simp [*];done)|(simp [Int.tmod_eq_emod_of_nonneg];done)),H',⟨by have:=HK1.out;first|omega|exact Nat.le_refl _⟩,⟨by (with_reducible repeat (first|apply yH|apply yI|apply yJ));exact HO_252000.out⟩,⟨by (with_reducible repeat (first|apply yH|apply yI|apply yJ));exact HO_252001.out⟩,⟨by (with_reducible repeat (first|refine yE ?_ _|refine yF ?_|refine yG ?_ _));exact BK244.out⟩,⟨by (with_reducible repeat (first|refine yE ?_ _|refine yF ?_|refine yG ?_ _));exact BK251.out⟩,⟨by repeat (first|(with_reducible first|exact HB.out|apply yA|apply yB|apply yC|refine yD ?_ GE244.out|refine yD ?_ GE251.out)|exact HB.out)⟩⟩
 case rest =>
  clear HC2
  try clear c1
  try clear p1
  try clear q1
  try clear hx1
  try clear c2
  try clear p2
  try clear p6
  try clear c11
  try clear c13
  try clear c13b0
  try clear c14
  try clear c14b0
  try clear p15
  try clear q15
  try clear hx15
  try clear c16
  try clear c16b0
  try clear c16b1
  try clear hcz12_0
  try clear hcz12_1
  try clear hfz12_0
  try clear hfz12_1
  try clear p15
  try clear p2
  try clear q15
  obtain ⟨kq,x5_1,rfl,HA,HJ1,HO_252000,HO_252001,BK244,BK251,HB⟩:=hcut
  cases kq with
  | zero=>exact absurd HA.out (by simp [spec_l1Read.j1])
  | succ kj1 =>
   have H:=HA.out
   clear HA
   simp only [spec_l1Read.j1] at H
   have HC17:=Aside0.mk H
   clear H
   go_upto_region 5 with (fail)
   go_cut [37] (fun v37 wc=>∃ (kq:Nat) (x37_16:Bool),v37=.bool x37_16∧Aside0 (spec_l1Read.j2 kq a0 x5_1 x37_16 y245 y248=some (r1,r2,r3))∧Aside0 (kq≤kj1)∧Aside0 (Kd.R Kd.bool 4 wc w.heap.size (fun k_=>some k_≠((.slice Ao8 y248.length co8):Value).ownBlock) (.slice Ao9 y245.length co9) y245)∧Aside0 (Kd.R Kd.bool 4 wc w.heap.size (fun k_=>some k_≠((.slice Ao9 y245.length co9):Value).ownBlock) (.slice Ao8 y248.length co8) y248)∧Aside0 (wc.heap[gb244]?=some (.cells #[(.slice none 0 0),(.slice none 0 0)] 41 (0,0)))∧Aside0 (wc.heap[gb251]?=some (.cells #[(.slice Ao9 y245.length co9),(.slice Ao8 y248.length co8)] 41 (0,0)))∧Aside0 (Below w.heap.size w wc))
   case first =>
    have H:=HC17.out
    clear HC17
    by_cases c18:(wrap64 (x5_1+2)) ≥ (a0.size:Int)
    ·rw [if_pos c18] at H
     have c18b0:decide ((a0.size:Int)≤(wrap64 (x5_1+2)))=true:=decide_eq_true c18
     clear c18
     (first|rw [c18b0]|(simp only [i64_w,i32_w];rw [c18b0])|skip)
     have H':=Aside0.mk H
     clear H
     go_wp2
     go_meet
     case rel=>exact ⟨_,(true),(by first|rfl|(simp;done)|(simp [*];done)|(simp [Int.tmod_eq_emod_of_nonneg];done)),H',⟨by have:=HJ1.out;first|omega|exact Nat.le_refl _⟩,⟨by (with_reducible repeat (first|apply yH|apply yI|apply yJ));exact HO_252000.out⟩,⟨by (with_reducible repeat (first|apply yH|apply yI|apply yJ));exact HO_252001.out⟩,⟨by (with_reducible repeat (first|refine yE ?_ _|refine yF ?_|refine yG ?_ _));exact BK244.out⟩,⟨by (with_reducible repeat (first|refine yE ?_ _|refine yF ?_|refine yG ?_ _));exact BK251.out⟩,⟨by repeat (first|(with_reducible first|exact HB.out|apply yA|apply yB|apply yC|refine yD ?_ GE244.out|refine yD ?_ GE251.out)|exact HB.out)⟩⟩
    ·rw [if_neg c18] at H
     have c18b0:decide ((a0.size:Int)≤(wrap64 (x5_1+2)))=false:=decide_eq_false c18
     clear c18
     (first|rw [c18b0]|(simp only [i64_w,i32_w];rw [c18b0])|skip)
     obtain ⟨ji19,hji19⟩:∃ j_:Int,(wrap64 ((a0.size:Int) - 1))=j_:=⟨_,rfl⟩
     replace H:(if 0≤(ji19) then (if (ji19)<(a0.size:Int) then (spec_l1Read.j2 kj1 a0 x5_1 ((bt a0 (ji19)) != 41) y245 y248) else (none)) else (none))=some (r1,r2,r3):=by first|(rw [hji19] at H;exact H)|(simp only [hji19] at H ⊢;exact H)
     have hji19w:(IntKind.i64.wrap ((a0.size:Int) - 1))=ji19:=(i64_w _).trans hji19
     by_cases c20:0≤(ji19)
     ·rw [if_pos c20] at H
      have c20b0:decide (0≤(ji19))=true:=decide_eq_true c20
      clear c20
      by_cases c21:(ji19)<(a0.size:Int)
      ·rw [if_pos c21] at H
       have c21b0:decide ((ji19)<(a0.size:Int))=true:=decide_eq_true c21
       clear c21
       have H':=Aside0.mk H
       clear H
       have p22:0≤((ji19):Int):=of_decide_eq_true (by first|(with_reducible assumption)|assumption)
       have q22:(ji19)<(a0.size:Int):=of_decide_eq_true (by first|(with_reducible assumption)|assumption)
       have hx22:=bt_at a0 (ji19)
       replace p22:=eq_true p22
       replace q22:=eq_true q22
       go_wp2
       go_meet
       case rel=>exact ⟨_,(((bt a0 (ji19)) != 41)),(by first|rfl|(simp;done)|(simp only [← hji19]<;>(first|rfl|simp))|(simp [*];done)),H',⟨by have:=HJ1.out;first|omega|exact Nat.le_refl _⟩,⟨by (with_reducible repeat (first|apply yH|apply yI|apply yJ));exact HO_252000.out⟩,⟨by (with_reducible repeat (first|apply yH|apply yI|apply yJ));exact HO_252001.out⟩,⟨by (with_reducible repeat (first|refine yE ?_ _|refine yF ?_|refine yG ?_ _));exact BK244.out⟩,⟨by (with_reducible repeat (first|refine yE ?_ _|refine yF ?_|refine yG ?_ _));exact BK251.out⟩,⟨by repeat (first|(with_reducible first|exact HB.out|apply yA|apply yB|apply yC|refine yD ?_ GE244.out|refine yD ?_ GE251.out)|exact HB.out)⟩⟩
      ·rw [if_neg c21] at H
       exact absurd H (by simp)
     ·rw [if_neg c20] at H
      exact absurd H (by simp)
   case rest =>
    clear HC17
    try clear c1
    try clear p1
    try clear q1
    try clear hx1
    try clear c2
    try clear p2
    try clear q2
    try clear hx2
    try clear p6
    try clear c11
    try clear c13
    try clear c13b0
    try clear c14
    try clear c14b0
    try clear p15
    try clear q15
    try clear hx15
    try clear c16
    try clear c16b0
    try clear c16b1
    try clear c18
    try clear c18b0
    try clear c20
    try clear c20b0
    try clear c21
    try clear c21b0
    try clear c22
    try clear p22
    try clear q22
    try clear hx22
    try clear hcz12_0
    try clear hcz12_1
    try clear hfz12_0
    try clear hfz12_1
    try clear p1
    try clear p15
    try clear p2
    try clear p22
    try clear p6
    try clear q1
    try clear q15
    try clear q22
    obtain ⟨kq,x37_16,rfl,HA,HJ16,HO_252000,HO_252001,BK244,BK251,HB⟩:=hcut
    cases kq with
    | zero=>exact absurd HA.out (by simp [spec_l1Read.j2])
    | succ kj16 =>
     have H:=HA.out
     clear HA
     simp only [spec_l1Read.j2] at H
     by_cases c23:x37_16=true
     ·subst c23
      have H1:(some (y245,y248,false))=some (r1,r2,r3):=by rw [if_pos rfl] at H;exact H
      clear H
      have H:=H1
      clear H1
      simp only [Option.some.injEq,Prod.mk.injEq] at H
      obtain ⟨rfl,rfl,rfl⟩:=H
      have hnb24:=NB251_244.out
      have hnc24:=NB244_251.out
      have hcz25_0:wc.cell? ⟨gb251,0,none⟩=some (.slice Ao9 y245.length co9):=(blk_cell BK251.out 0).trans rfl
      have hcz25_1:wc.cell? ⟨gb251,1,none⟩=some (.slice Ao8 y248.length co8):=(blk_cell BK251.out 1).trans rfl
      have hfz25_0:=blk_frozen BK251.out 0
      have hfz25_1:=blk_frozen BK251.out 1
      have hcz26_0:wc.cell? ⟨gb244,0,none⟩=some (.slice none 0 0):=(blk_cell BK244.out 0).trans rfl
      have hcz26_1:wc.cell? ⟨gb244,1,none⟩=some (.slice none 0 0):=(blk_cell BK244.out 1).trans rfl
      have hfz26_0:=blk_frozen BK244.out 0
      have hfz26_1:=blk_frozen BK244.out 1
      go_wp2
      refine bodyPost_ret (results_ct rfl _ _ gb244 41 #[.slice Ao9 y245.length co9,.slice Ao8 y248.length co8] (0,0) _ rfl (by (with_reducible repeat (first|refine yE ?_ _|refine yF ?_|refine yG ?_ _));refine blk_put (cs:=#[.slice Ao9 y245.length co9,.slice none 0 0]) ?_ 1 _ rfl;(with_reducible repeat (first|refine yE ?_ _|refine yF ?_|refine yG ?_ _));refine blk_put (cs:=#[.slice none 0 0,.slice none 0 0]) ?_ 0 _ rfl;(with_reducible repeat (first|refine yE ?_ _|refine yF ?_|refine yG ?_ _));exact BK244.out) Try.underlying41 rfl (by kernel_rfl)) rfl ?_
      exact ⟨_,_,by first|rfl|(simp [errW_none,errW_some]<;>rfl)|(simp [*,errW_none,errW_some]<;>rfl)|(simp [errW_none,errW_some];exact ⟨rfl,rfl⟩),by (with_reducible repeat (first|apply yH|apply yI|apply yJ));exact Kd.R_mono (Kd.R_far (p:=⟨gb244,1,none⟩) (Kd.R_far (p:=⟨gb244,0,none⟩) (Kd.R_types HO_252000.out BK244.out (by decide)) (fun _ hk=>hk.2) (.slice Ao9 y245.length co9)) (fun _ hk=>hk.2) (.slice Ao8 y248.length co8)) (fun _ hk=>hk.1),by (with_reducible repeat (first|apply yH|apply yI|apply yJ));exact Kd.R_mono (Kd.R_far (p:=⟨gb244,1,none⟩) (Kd.R_far (p:=⟨gb244,0,none⟩) (Kd.R_types HO_252001.out BK244.out (by decide)) (fun _ hk=>hk.2) (.slice Ao9 y245.length co9)) (fun _ hk=>hk.2) (.slice Ao8 y248.length co8)) (fun _ hk=>hk.1),by repeat (first|(with_reducible first|exact HB.out|apply yA|apply yB|apply yC|refine yD ?_ GE244.out|refine yD ?_ GE251.out)|exact HB.out)⟩
     ·replace c23:=Bool.eq_false_iff.mpr c23
      subst c23
      have H1:(if 0≤x5_1 then (if x5_1≤(a0.size:Int) then ((spec_l1Signs.f kj16 (a0.extract 0 (x5_1:Int).toNat)).bind fun bt252=>(if 0≤(wrap64 (x5_1+1)) then (if (wrap64 (x5_1+1))≤(wrap64 ((a0.size:Int) - 1)) then (if (wrap64 ((a0.size:Int) - 1))≤(a0.size:Int) then ((spec_l1Signs.f kj16 (a0.extract ((wrap64 (x5_1+1)):Int).toNat ((wrap64 ((a0.size:Int) - 1)):Int).toNat)).bind fun bt256=>(if bt252.2=true then (if bt256.2=true then (if (bt252.1.length:Int) > 60 then (some (y245,y248,false)) else (if (bt256.1.length:Int) > 60 then (some (y245,y248,false)) else (some (bt252.1,bt256.1,true)))) else (some (y245,y248,false))) else (some (y245,y248,false)))) else (none)) else (none)) else (none))) else (none)) else (none))=some (r1,r2,r3):=by rw [if_neg (show ¬ (false=true) by decide)] at H;exact H
      clear H
      have H:=H1
      clear H1
      by_cases c27:0≤x5_1
      ·rw [if_pos c27] at H
       have c27b0:=eq_true c27
       have c27b1:decide (0≤x5_1)=true:=decide_eq_true c27
       clear c27
       by_cases c28:x5_1≤(a0.size:Int)
       ·rw [if_pos c28] at H
        have c28b0:=eq_true c28
        have c28b1:decide (x5_1≤(a0.size:Int))=true:=decide_eq_true c28
        clear c28
        replace H:=Option.bind_eq_some_iff.mp H
        obtain ⟨⟨t252,t253⟩,A290,H⟩:=H
        replace H:(if 0≤(wrap64 (x5_1+1)) then (if (wrap64 (x5_1+1))≤(wrap64 ((a0.size:Int) - 1)) then (if (wrap64 ((a0.size:Int) - 1))≤(a0.size:Int) then ((spec_l1Signs.f kj16 (a0.extract ((wrap64 (x5_1+1)):Int).toNat ((wrap64 ((a0.size:Int) - 1)):Int).toNat)).bind fun bt256=>(if t253=true then (if bt256.2=true then (if (t252.length:Int) > 60 then (some (y245,y248,false)) else (if (bt256.1.length:Int) > 60 then (some (y245,y248,false)) else (some (t252,bt256.1,true)))) else (some (y245,y248,false))) else (some (y245,y248,false)))) else (none)) else (none)) else (none))=some (r1,r2,r3):=H
        have A29:=Aside0.mk A290
        clear A290
        obtain ⟨ji30,hji30⟩:∃ j_:Int,(wrap64 (x5_1+1))=j_:=⟨_,rfl⟩
        replace H:(if 0≤(ji30) then (if (ji30)≤(wrap64 ((a0.size:Int) - 1)) then (if (wrap64 ((a0.size:Int) - 1))≤(a0.size:Int) then ((spec_l1Signs.f kj16 (a0.extract ((ji30):Int).toNat ((wrap64 ((a0.size:Int) - 1)):Int).toNat)).bind fun bt256=>(if t253=true then (if bt256.2=true then (if (t252.length:Int) > 60 then (some (y245,y248,false)) else (if (bt256.1.length:Int) > 60 then (some (y245,y248,false)) else (some (t252,bt256.1,true)))) else (some (y245,y248,false))) else (some (y245,y248,false)))) else (none)) else (none)) else (none))=some (r1,r2,r3):=by first|(rw [hji30] at H;exact H)|(simp only [hji30] at H ⊢;exact H)
        (try rw [hji30] at A29)
        have hji30w:(IntKind.i64.wrap (x5_1+1))=ji30:=(i64_w _).trans hji30
        by_cases c31:0≤(ji30)
        ·rw [if_pos c31] at H
         have c31b0:=eq_true c31
         have c31b1:decide (0≤(ji30))=true:=decide_eq_true c31
         clear c31
         by_cases c32:(ji30)≤(wrap64 ((a0.size:Int) - 1))
         ·rw [if_pos c32] at H
          have c32b0:=eq_true c32
          have c32b1:decide ((ji30)≤(wrap64 ((a0.size:Int) - 1)))=true:=decide_eq_true c32
          clear c32
          by_cases c33:(wrap64 ((a0.size:Int) - 1))≤(a0.size:Int)
          ·rw [if_pos c33] at H
           have c33b0:=eq_true c33
           have c33b1:decide ((wrap64 ((a0.size:Int) - 1))≤(a0.size:Int))=true:=decide_eq_true c33
           clear c33
           replace H:=Option.bind_eq_some_iff.mp H
           obtain ⟨⟨t256,t257⟩,A340,H⟩:=H
           replace H:(if t253=true then (if t257=true then (if (t252.length:Int) > 60 then (some (y245,y248,false)) else (if (t256.length:Int) > 60 then (some (y245,y248,false)) else (some (t252,t256,true)))) else (some (y245,y248,false))) else (some (y245,y248,false)))=some (r1,r2,r3):=H
           have A34:=Aside0.mk A340
           clear A340
           by_cases c35:t253=true
           ·subst c35
            have H1:(if t257=true then (if (t252.length:Int) > 60 then (some (y245,y248,false)) else (if (t256.length:Int) > 60 then (some (y245,y248,false)) else (some (t252,t256,true)))) else (some (y245,y248,false)))=some (r1,r2,r3):=by rw [if_pos rfl] at H;exact H
            clear H
            have H:=H1
            clear H1
            by_cases c36:t257=true
            ·subst c36
             have H1:(if (t252.length:Int) > 60 then (some (y245,y248,false)) else (if (t256.length:Int) > 60 then (some (y245,y248,false)) else (some (t252,t256,true))))=some (r1,r2,r3):=by rw [if_pos rfl] at H;exact H
             clear H
             have H:=H1
             clear H1
             by_cases c37:(t252.length:Int) > 60
             ·rw [if_pos c37] at H
              have c37b0:decide (60<(t252.length:Int))=true:=decide_eq_true c37
              have c37b1:decide (60<t252.length)=true:=decide_eq_true (by omega)
              clear c37
              simp only [Option.some.injEq,Prod.mk.injEq] at H
              obtain ⟨rfl,rfl,rfl⟩:=H
              go_wp2_with (first|((with_reducible refine gate_callee (f:=27) rfl ?_);refine goesL_ (some 43) rfl rfl Try.func27 (by kernel_rfl) rfl #[.string (a0.extract 0 (x5_1:Int).toNat)] rfl (by (try simp only [List.map_toArray,List.map_cons,List.map_nil]);first|done|rfl|(simp only [List.length_drop,List.length_take];rfl)) ?_;(with_reducible refine (spec_l1Signs.calls kj16 (a0.extract 0 (x5_1:Int).toNat) t252 true _ A29.out).mono ?_);rintro e w38 ⟨v254,rfl,ho0,hb⟩;refine ⟨_,rfl,?_⟩;have n0_:=Aside0.mk (Kd.R_elder' (by (with_reducible repeat (first|apply yH|apply yI|apply yJ));exact HO_252000.out) (Kd.R_base ho0) hb);have n1_:=Aside0.mk (Kd.R_elder' (by (with_reducible repeat (first|apply yH|apply yI|apply yJ));exact HO_252001.out) (Kd.R_base ho0) hb);have n2_:=Aside0.mk (Kd.R_lower (Kd.R_new' (Kd.R_new' ho0 (Kd.R_lt (by (with_reducible repeat (first|apply yH|apply yI|apply yJ));exact HO_252000.out))) (Kd.R_lt (by (with_reducible repeat (first|apply yH|apply yI|apply yJ));exact HO_252001.out))) (yQ (by repeat (first|(with_reducible first|exact HB.out|apply yA|apply yB|apply yC|refine yD ?_ GE244.out|refine yD ?_ GE251.out)|exact HB.out))));have n3_:=Aside0.mk (blk_below (g:=gb244) (o:=.cells #[.slice none 0 0,.slice none 0 0] 41 (0,0)) (by (with_reducible repeat (first|refine yE ?_ _|refine yF ?_|refine yG ?_ _));exact BK244.out) hb);have n4_:=Aside0.mk (blk_below (g:=gb251) (o:=.cells #[.slice Ao9 y245.length co9,.slice Ao8 y248.length co8] 41 (0,0)) (by (with_reducible repeat (first|refine yE ?_ _|refine yF ?_|refine yG ?_ _));exact BK251.out) hb);have n5_:=Aside0.mk (yP (by repeat (first|(with_reducible first|exact HB.out|apply yA|apply yB|apply yC|refine yD ?_ GE244.out|refine yD ?_ GE251.out)|exact HB.out)) hb);clear HO_252000;clear HO_252001;clear BK244;clear BK251;clear HB;have HO_252000:=n0_;have HO_252001:=n1_;have HO255:=n2_;have BK244:=n3_;have BK251:=n4_;have HB:=n5_;clear n0_ n1_ n2_ n3_ n4_ n5_;(try clear hb);(try clear hb2);(try clear hk);(try clear hi);(try clear ho0))|((with_reducible refine gate_callee (f:=27) rfl ?_);refine goesL_ (some 54) rfl rfl Try.func27 (by kernel_rfl) rfl #[.string (a0.extract ((ji30):Int).toNat ((wrap64 ((a0.size:Int) - 1)):Int).toNat)] rfl (by (try simp only [List.map_toArray,List.map_cons,List.map_nil]);first|done|(simp only [hji30];rfl)|rfl|(simp only [List.length_drop,List.length_take];rfl)) ?_;(with_reducible refine (spec_l1Signs.calls kj16 (a0.extract ((ji30):Int).toNat ((wrap64 ((a0.size:Int) - 1)):Int).toNat) t256 true _ A34.out).mono ?_);rintro e w39 ⟨v258,rfl,ho0,hb⟩;refine ⟨_,rfl,?_⟩;have n0_:=Aside0.mk (Kd.R_elder' (by (with_reducible repeat (first|apply yH|apply yI|apply yJ));exact HO_252000.out) (Kd.R_base ho0) hb);have n1_:=Aside0.mk (Kd.R_elder' (by (with_reducible repeat (first|apply yH|apply yI|apply yJ));exact HO_252001.out) (Kd.R_base ho0) hb);have n2_:=Aside0.mk (Kd.R_elder' (by (with_reducible repeat (first|apply yH|apply yI|apply yJ));exact HO255.out) (Kd.R_base ho0) hb);have n3_:=Aside0.mk (Kd.R_lower (Kd.R_new' (Kd.R_new' (Kd.R_new' ho0 (Kd.R_lt (by (with_reducible repeat (first|apply yH|apply yI|apply yJ));exact HO_252000.out))) (Kd.R_lt (by (with_reducible repeat (first|apply yH|apply yI|apply yJ));exact HO_252001.out))) (Kd.R_lt (by (with_reducible repeat (first|apply yH|apply yI|apply yJ));exact HO255.out))) (yQ (by repeat (first|(with_reducible first|exact HB.out|apply yA|apply yB|apply yC|refine yD ?_ GE244.out|refine yD ?_ GE251.out)|exact HB.out))));have n4_:=Aside0.mk (blk_below (g:=gb244) (o:=.cells #[.slice none 0 0,.slice none 0 0] 41 (0,0)) (by (with_reducible repeat (first|refine yE ?_ _|refine yF ?_|refine yG ?_ _));exact BK244.out) hb);have n5_:=Aside0.mk (blk_below (g:=gb251) (o:=.cells #[.slice Ao9 y245.length co9,.slice Ao8 y248.length co8] 41 (0,0)) (by (with_reducible repeat (first|refine yE ?_ _|refine yF ?_|refine yG ?_ _));exact BK251.out) hb);have n6_:=Aside0.mk (yP (by repeat (first|(with_reducible first|exact HB.out|apply yA|apply yB|apply yC|refine yD ?_ GE244.out|refine yD ?_ GE251.out)|exact HB.out)) hb);clear HO_252000;clear HO_252001;clear HO255;clear BK244;clear BK251;clear HB;have HO_252000:=n0_;have HO_252001:=n1_;have HO255:=n2_;have HO259:=n3_;have BK244:=n4_;have BK251:=n5_;have HB:=n6_;clear n0_ n1_ n2_ n3_ n4_ n5_ n6_;(try clear hb);(try clear hb2);(try clear hk);(try clear hi);(try clear ho0);obtain ⟨Ao40,co40,eo40⟩:=Kd.R_slice HO255.out;subst eo40;have hnb41:=NB251_244.out;have hnc41:=NB244_251.out;have hcz42_0:w39.cell? ⟨gb251,0,none⟩=some (.slice Ao9 y245.length co9):=(blk_cell BK251.out 0).trans rfl;have hcz42_1:w39.cell? ⟨gb251,1,none⟩=some (.slice Ao8 y248.length co8):=(blk_cell BK251.out 1).trans rfl;have hfz42_0:=blk_frozen BK251.out 0;have hfz42_1:=blk_frozen BK251.out 1;have hcz43_0:w39.cell? ⟨gb244,0,none⟩=some (.slice none 0 0):=(blk_cell BK244.out 0).trans rfl;have hcz43_1:w39.cell? ⟨gb244,1,none⟩=some (.slice none 0 0):=(blk_cell BK244.out 1).trans rfl;have hfz43_0:=blk_frozen BK244.out 0;have hfz43_1:=blk_frozen BK244.out 1))
              refine bodyPost_ret (results_ct rfl _ _ gb244 41 #[.slice Ao9 y245.length co9,.slice Ao8 y248.length co8] (0,0) _ rfl (by (with_reducible repeat (first|refine yE ?_ _|refine yF ?_|refine yG ?_ _));refine blk_put (cs:=#[.slice Ao9 y245.length co9,.slice none 0 0]) ?_ 1 _ rfl;(with_reducible repeat (first|refine yE ?_ _|refine yF ?_|refine yG ?_ _));refine blk_put (cs:=#[.slice none 0 0,.slice none 0 0]) ?_ 0 _ rfl;(with_reducible repeat (first|refine yE ?_ _|refine yF ?_|refine yG ?_ _));exact BK244.out) Try.underlying41 rfl (by kernel_rfl)) rfl ?_
              exact ⟨_,_,by first|rfl|(simp [errW_none,errW_some]<;>rfl)|(simp only [← hji30];first|rfl|(simp [errW_none,errW_some]<;>rfl))|(simp [*,errW_none,errW_some]<;>rfl),by (with_reducible repeat (first|apply yH|apply yI|apply yJ));exact Kd.R_mono (Kd.R_far (p:=⟨gb244,1,none⟩) (Kd.R_far (p:=⟨gb244,0,none⟩) (Kd.R_types HO_252000.out BK244.out (by decide)) (fun _ hk=>hk.2) (.slice Ao9 y245.length co9)) (fun _ hk=>hk.2) (.slice Ao8 y248.length co8)) (fun _ hk=>hk.1.1.1),by (with_reducible repeat (first|apply yH|apply yI|apply yJ));exact Kd.R_mono (Kd.R_far (p:=⟨gb244,1,none⟩) (Kd.R_far (p:=⟨gb244,0,none⟩) (Kd.R_types HO_252001.out BK244.out (by decide)) (fun _ hk=>hk.2) (.slice Ao9 y245.length co9)) (fun _ hk=>hk.2) (.slice Ao8 y248.length co8)) (fun _ hk=>hk.1.1.1),by repeat (first|(with_reducible first|exact HB.out|apply yA|apply yB|apply yC|refine yD ?_ GE244.out|refine yD ?_ GE251.out)|exact HB.out)⟩
             ·rw [if_neg c37] at H
              have c37b0:decide (60<(t252.length:Int))=false:=decide_eq_false c37
              have c37b1:decide (60<t252.length)=false:=decide_eq_false (by omega)
              clear c37
              by_cases c44:(t256.length:Int) > 60
              ·rw [if_pos c44] at H
               have c44b0:decide (60<(t256.length:Int))=true:=decide_eq_true c44
               have c44b1:decide (60<t256.length)=true:=decide_eq_true (by omega)
               clear c44
               simp only [Option.some.injEq,Prod.mk.injEq] at H
               obtain ⟨rfl,rfl,rfl⟩:=H
               go_wp2_with (first|((with_reducible refine gate_callee (f:=27) rfl ?_);refine goesL_ (some 43) rfl rfl Try.func27 (by kernel_rfl) rfl #[.string (a0.extract 0 (x5_1:Int).toNat)] rfl (by (try simp only [List.map_toArray,List.map_cons,List.map_nil]);first|done|rfl|(simp only [List.length_drop,List.length_take];rfl)) ?_;(with_reducible refine (spec_l1Signs.calls kj16 (a0.extract 0 (x5_1:Int).toNat) t252 true _ A29.out).mono ?_);rintro e w45 ⟨v254,rfl,ho0,hb⟩;refine ⟨_,rfl,?_⟩;have n0_:=Aside0.mk (Kd.R_elder' (by (with_reducible repeat (first|apply yH|apply yI|apply yJ));exact HO_252000.out) (Kd.R_base ho0) hb);have n1_:=Aside0.mk (Kd.R_elder' (by (with_reducible repeat (first|apply yH|apply yI|apply yJ));exact HO_252001.out) (Kd.R_base ho0) hb);have n2_:=Aside0.mk (Kd.R_lower (Kd.R_new' (Kd.R_new' ho0 (Kd.R_lt (by (with_reducible repeat (first|apply yH|apply yI|apply yJ));exact HO_252000.out))) (Kd.R_lt (by (with_reducible repeat (first|apply yH|apply yI|apply yJ));exact HO_252001.out))) (yQ (by repeat (first|(with_reducible first|exact HB.out|apply yA|apply yB|apply yC|refine yD ?_ GE244.out|refine yD ?_ GE251.out)|exact HB.out))));have n3_:=Aside0.mk (blk_below (g:=gb244) (o:=.cells #[.slice none 0 0,.slice none 0 0] 41 (0,0)) (by (with_reducible repeat (first|refine yE ?_ _|refine yF ?_|refine yG ?_ _));exact BK244.out) hb);have n4_:=Aside0.mk (blk_below (g:=gb251) (o:=.cells #[.slice Ao9 y245.length co9,.slice Ao8 y248.length co8] 41 (0,0)) (by (with_reducible repeat (first|refine yE ?_ _|refine yF ?_|refine yG ?_ _));exact BK251.out) hb);have n5_:=Aside0.mk (yP (by repeat (first|(with_reducible first|exact HB.out|apply yA|apply yB|apply yC|refine yD ?_ GE244.out|refine yD ?_ GE251.out)|exact HB.out)) hb);clear HO_252000;clear HO_252001;clear BK244;clear BK251;clear HB;have HO_252000:=n0_;have HO_252001:=n1_;have HO255:=n2_;have BK244:=n3_;have BK251:=n4_;have HB:=n5_;clear n0_ n1_ n2_ n3_ n4_ n5_;(try clear hb);(try clear hb2);(try clear hk);(try clear hi);(try clear ho0))|((with_reducible refine gate_callee (f:=27) rfl ?_);refine goesL_ (some 54) rfl rfl Try.func27 (by kernel_rfl) rfl #[.string (a0.extract ((ji30):Int).toNat ((wrap64 ((a0.size:Int) - 1)):Int).toNat)] rfl (by (try simp only [List.map_toArray,List.map_cons,List.map_nil]);first|done|(simp only [hji30];rfl)|rfl|(simp only [List.length_drop,List.length_take];rfl)) ?_;(with_reducible refine (spec_l1Signs.calls kj16 (a0.extract ((ji30):Int).toNat ((wrap64 ((a0.size:Int) - 1)):Int).toNat) t256 true _ A34.out).mono ?_);rintro e w46 ⟨v258,rfl,ho0,hb⟩;refine ⟨_,rfl,?_⟩;have n0_:=Aside0.mk (Kd.R_elder' (by (with_reducible repeat (first|apply yH|apply yI|apply yJ));exact HO_252000.out) (Kd.R_base ho0) hb);have n1_:=Aside0.mk (Kd.R_elder' (by (with_reducible repeat (first|apply yH|apply yI|apply yJ));exact HO_252001.out) (Kd.R_base ho0) hb);have n2_:=Aside0.mk (Kd.R_elder' (by (with_reducible repeat (first|apply yH|apply yI|apply yJ));exact HO255.out) (Kd.R_base ho0) hb);have n3_:=Aside0.mk (Kd.R_lower (Kd.R_new' (Kd.R_new' (Kd.R_new' ho0 (Kd.R_lt (by (with_reducible repeat (first|apply yH|apply yI|apply yJ));exact HO_252000.out))) (Kd.R_lt (by (with_reducible repeat (first|apply yH|apply yI|apply yJ));exact HO_252001.out))) (Kd.R_lt (by (with_reducible repeat (first|apply yH|apply yI|apply yJ));exact HO255.out))) (yQ (by repeat (first|(with_reducible first|exact HB.out|apply yA|apply yB|apply yC|refine yD ?_ GE244.out|refine yD ?_ GE251.out)|exact HB.out))));have n4_:=Aside0.mk (blk_below (g:=gb244) (o:=.cells #[.slice none 0 0,.slice none 0 0] 41 (0,0)) (by (with_reducible repeat (first|refine yE ?_ _|refine yF ?_|refine yG ?_ _));exact BK244.out) hb);have n5_:=Aside0.mk (blk_below (g:=gb251) (o:=.cells #[.slice Ao9 y245.length co9,.slice Ao8 y248.length co8] 41 (0,0)) (by (with_reducible repeat (first|refine yE ?_ _|refine yF ?_|refine yG ?_ _));exact BK251.out) hb);have n6_:=Aside0.mk (yP (by repeat (first|(with_reducible first|exact HB.out|apply yA|apply yB|apply yC|refine yD ?_ GE244.out|refine yD ?_ GE251.out)|exact HB.out)) hb);clear HO_252000;clear HO_252001;clear HO255;clear BK244;clear BK251;clear HB;have HO_252000:=n0_;have HO_252001:=n1_;have HO255:=n2_;have HO259:=n3_;have BK244:=n4_;have BK251:=n5_;have HB:=n6_;clear n0_ n1_ n2_ n3_ n4_ n5_ n6_;(try clear hb);(try clear hb2);(try clear hk);(try clear hi);(try clear ho0);obtain ⟨Ao47,co47,eo47⟩:=Kd.R_slice HO255.out;subst eo47;obtain ⟨Ao48,co48,eo48⟩:=Kd.R_slice HO259.out;subst eo48;have hnb49:=NB251_244.out;have hnc49:=NB244_251.out;have hcz50_0:w46.cell? ⟨gb251,0,none⟩=some (.slice Ao9 y245.length co9):=(blk_cell BK251.out 0).trans rfl;have hcz50_1:w46.cell? ⟨gb251,1,none⟩=some (.slice Ao8 y248.length co8):=(blk_cell BK251.out 1).trans rfl;have hfz50_0:=blk_frozen BK251.out 0;have hfz50_1:=blk_frozen BK251.out 1;have hcz51_0:w46.cell? ⟨gb244,0,none⟩=some (.slice none 0 0):=(blk_cell BK244.out 0).trans rfl;have hcz51_1:w46.cell? ⟨gb244,1,none⟩=some (.slice none 0 0):=(blk_cell BK244.out 1).trans rfl;have hfz51_0:=blk_frozen BK244.out 0;have hfz51_1:=blk_frozen BK244.out 1))
               refine bodyPost_ret (results_ct rfl _ _ gb244 41 #[.slice Ao9 y245.length co9,.slice Ao8 y248.length co8] (0,0) _ rfl (by (with_reducible repeat (first|refine yE ?_ _|refine yF ?_|refine yG ?_ _));refine blk_put (cs:=#[.slice Ao9 y245.length co9,.slice none 0 0]) ?_ 1 _ rfl;(with_reducible repeat (first|refine yE ?_ _|refine yF ?_|refine yG ?_ _));refine blk_put (cs:=#[.slice none 0 0,.slice none 0 0]) ?_ 0 _ rfl;(with_reducible repeat (first|refine yE ?_ _|refine yF ?_|refine yG ?_ _));exact BK244.out) Try.underlying41 rfl (by kernel_rfl)) rfl ?_
               exact ⟨_,_,by first|rfl|(simp [errW_none,errW_some]<;>rfl)|(simp only [← hji30];first|rfl|(simp [errW_none,errW_some]<;>rfl))|(simp [*,errW_none,errW_some]<;>rfl),by (with_reducible repeat (first|apply yH|apply yI|apply yJ));exact Kd.R_mono (Kd.R_far (p:=⟨gb244,1,none⟩) (Kd.R_far (p:=⟨gb244,0,none⟩) (Kd.R_types HO_252000.out BK244.out (by decide)) (fun _ hk=>hk.2) (.slice Ao9 y245.length co9)) (fun _ hk=>hk.2) (.slice Ao8 y248.length co8)) (fun _ hk=>hk.1.1.1),by (with_reducible repeat (first|apply yH|apply yI|apply yJ));exact Kd.R_mono (Kd.R_far (p:=⟨gb244,1,none⟩) (Kd.R_far (p:=⟨gb244,0,none⟩) (Kd.R_types HO_252001.out BK244.out (by decide)) (fun _ hk=>hk.2) (.slice Ao9 y245.length co9)) (fun _ hk=>hk.2) (.slice Ao8 y248.length co8)) (fun _ hk=>hk.1.1.1),by repeat (first|(with_reducible first|exact HB.out|apply yA|apply yB|apply yC|refine yD ?_ GE244.out|refine yD ?_ GE251.out)|exact HB.out)⟩
              ·rw [if_neg c44] at H
               have c44b0:decide (60<(t256.length:Int))=false:=decide_eq_false c44
               have c44b1:decide (60<t256.length)=false:=decide_eq_false (by omega)
               clear c44
               simp only [Option.some.injEq,Prod.mk.injEq] at H
               obtain ⟨rfl,rfl,rfl⟩:=H
               go_wp2_with (first|((with_reducible refine gate_callee (f:=27) rfl ?_);refine goesL_ (some 43) rfl rfl Try.func27 (by kernel_rfl) rfl #[.string (a0.extract 0 (x5_1:Int).toNat)] rfl (by (try simp only [List.map_toArray,List.map_cons,List.map_nil]);first|done|rfl|(simp only [List.length_drop,List.length_take];rfl)) ?_;(with_reducible refine (spec_l1Signs.calls kj16 (a0.extract 0 (x5_1:Int).toNat) t252 true _ A29.out).mono ?_);rintro e w52 ⟨v254,rfl,ho0,hb⟩;refine ⟨_,rfl,?_⟩;have n0_:=Aside0.mk (Kd.R_elder' (by (with_reducible repeat (first|apply yH|apply yI|apply yJ));exact HO_252000.out) (Kd.R_base ho0) hb);have n1_:=Aside0.mk (Kd.R_elder' (by (with_reducible repeat (first|apply yH|apply yI|apply yJ));exact HO_252001.out) (Kd.R_base ho0) hb);have n2_:=Aside0.mk (Kd.R_lower (Kd.R_new' (Kd.R_new' ho0 (Kd.R_lt (by (with_reducible repeat (first|apply yH|apply yI|apply yJ));exact HO_252000.out))) (Kd.R_lt (by (with_reducible repeat (first|apply yH|apply yI|apply yJ));exact HO_252001.out))) (yQ (by repeat (first|(with_reducible first|exact HB.out|apply yA|apply yB|apply yC|refine yD ?_ GE244.out|refine yD ?_ GE251.out)|exact HB.out))));have n3_:=Aside0.mk (blk_below (g:=gb244) (o:=.cells #[.slice none 0 0,.slice none 0 0] 41 (0,0)) (by (with_reducible repeat (first|refine yE ?_ _|refine yF ?_|refine yG ?_ _));exact BK244.out) hb);have n4_:=Aside0.mk (blk_below (g:=gb251) (o:=.cells #[.slice Ao9 y245.length co9,.slice Ao8 y248.length co8] 41 (0,0)) (by (with_reducible repeat (first|refine yE ?_ _|refine yF ?_|refine yG ?_ _));exact BK251.out) hb);have n5_:=Aside0.mk (yP (by repeat (first|(with_reducible first|exact HB.out|apply yA|apply yB|apply yC|refine yD ?_ GE244.out|refine yD ?_ GE251.out)|exact HB.out)) hb);clear HO_252000;clear HO_252001;clear BK244;clear BK251;clear HB;have HO_252000:=n0_;have HO_252001:=n1_;have HO255:=n2_;have BK244:=n3_;have BK251:=n4_;have HB:=n5_;clear n0_ n1_ n2_ n3_ n4_ n5_;(try clear hb);(try clear hb2);(try clear hk);(try clear hi);(try clear ho0))|((with_reducible refine gate_callee (f:=27) rfl ?_);refine goesL_ (some 54) rfl rfl Try.func27 (by kernel_rfl) rfl #[.string (a0.extract ((ji30):Int).toNat ((wrap64 ((a0.size:Int) - 1)):Int).toNat)] rfl (by (try simp only [List.map_toArray,List.map_cons,List.map_nil]);first|done|(simp only [hji30];rfl)|rfl|(simp only [List.length_drop,List.length_take];rfl)) ?_;(with_reducible refine (spec_l1Signs.calls kj16 (a0.extract ((ji30):Int).toNat ((wrap64 ((a0.size:Int) - 1)):Int).toNat) t256 true _ A34.out).mono ?_);rintro e w53 ⟨v258,rfl,ho0,hb⟩;refine ⟨_,rfl,?_⟩;have n0_:=Aside0.mk (Kd.R_elder' (by (with_reducible repeat (first|apply yH|apply yI|apply yJ));exact HO_252000.out) (Kd.R_base ho0) hb);have n1_:=Aside0.mk (Kd.R_elder' (by (with_reducible repeat (first|apply yH|apply yI|apply yJ));exact HO_252001.out) (Kd.R_base ho0) hb);have n2_:=Aside0.mk (Kd.R_elder' (by (with_reducible repeat (first|apply yH|apply yI|apply yJ));exact HO255.out) (Kd.R_base ho0) hb);have n3_:=Aside0.mk (Kd.R_lower (Kd.R_new' (Kd.R_new' (Kd.R_new' ho0 (Kd.R_lt (by (with_reducible repeat (first|apply yH|apply yI|apply yJ));exact HO_252000.out))) (Kd.R_lt (by (with_reducible repeat (first|apply yH|apply yI|apply yJ));exact HO_252001.out))) (Kd.R_lt (by (with_reducible repeat (first|apply yH|apply yI|apply yJ));exact HO255.out))) (yQ (by repeat (first|(with_reducible first|exact HB.out|apply yA|apply yB|apply yC|refine yD ?_ GE244.out|refine yD ?_ GE251.out)|exact HB.out))));have n4_:=Aside0.mk (blk_below (g:=gb244) (o:=.cells #[.slice none 0 0,.slice none 0 0] 41 (0,0)) (by (with_reducible repeat (first|refine yE ?_ _|refine yF ?_|refine yG ?_ _));exact BK244.out) hb);have n5_:=Aside0.mk (blk_below (g:=gb251) (o:=.cells #[.slice Ao9 y245.length co9,.slice Ao8 y248.length co8] 41 (0,0)) (by (with_reducible repeat (first|refine yE ?_ _|refine yF ?_|refine yG ?_ _));exact BK251.out) hb);have n6_:=Aside0.mk (yP (by repeat (first|(with_reducible first|exact HB.out|apply yA|apply yB|apply yC|refine yD ?_ GE244.out|refine yD ?_ GE251.out)|exact HB.out)) hb);clear HO_252000;clear HO_252001;clear HO255;clear BK244;clear BK251;clear HB;have HO_252000:=n0_;have HO_252001:=n1_;have HO255:=n2_;have HO259:=n3_;have BK244:=n4_;have BK251:=n5_;have HB:=n6_;clear n0_ n1_ n2_ n3_ n4_ n5_ n6_;(try clear hb);(try clear hb2);(try clear hk);(try clear hi);(try clear ho0);obtain ⟨Ao54,co54,eo54⟩:=Kd.R_slice HO255.out;subst eo54;obtain ⟨Ao55,co55,eo55⟩:=Kd.R_slice HO259.out;subst eo55;have hnb56:=NB244_251.out;have hnc56:=NB251_244.out;have hcz57_0:w53.cell? ⟨gb244,0,none⟩=some (.slice none 0 0):=(blk_cell BK244.out 0).trans rfl;have hcz57_1:w53.cell? ⟨gb244,1,none⟩=some (.slice none 0 0):=(blk_cell BK244.out 1).trans rfl;have hfz57_0:=blk_frozen BK244.out 0;have hfz57_1:=blk_frozen BK244.out 1))
               refine bodyPost_ret (results_ct rfl _ _ gb244 41 #[.slice Ao54 t252.length co54,.slice Ao55 t256.length co55] (0,0) _ rfl (by (with_reducible repeat (first|refine yE ?_ _|refine yF ?_|refine yG ?_ _));refine blk_put (cs:=#[.slice Ao54 t252.length co54,.slice none 0 0]) ?_ 1 _ rfl;(with_reducible repeat (first|refine yE ?_ _|refine yF ?_|refine yG ?_ _));refine blk_put (cs:=#[.slice none 0 0,.slice none 0 0]) ?_ 0 _ rfl;(with_reducible repeat (first|refine yE ?_ _|refine yF ?_|refine yG ?_ _));exact BK244.out) Try.underlying41 rfl (by kernel_rfl)) rfl ?_
               exact ⟨_,_,by first|rfl|(simp [errW_none,errW_some]<;>rfl)|(simp only [← hji30];first|rfl|(simp [errW_none,errW_some]<;>rfl))|(simp [*,errW_none,errW_some]<;>rfl),by (with_reducible repeat (first|apply yH|apply yI|apply yJ));exact Kd.R_mono (Kd.R_far (p:=⟨gb244,1,none⟩) (Kd.R_far (p:=⟨gb244,0,none⟩) (Kd.R_types HO255.out BK244.out (by decide)) (fun _ hk=>hk.2) (.slice Ao54 t252.length co54)) (fun _ hk=>hk.2) (.slice Ao55 t256.length co55)) (fun _ hk=>hk.1.2),by (with_reducible repeat (first|apply yH|apply yI|apply yJ));exact Kd.R_mono (Kd.R_far (p:=⟨gb244,1,none⟩) (Kd.R_far (p:=⟨gb244,0,none⟩) (Kd.R_types HO259.out BK244.out (by decide)) (fun _ hk=>hk.2) (.slice Ao54 t252.length co54)) (fun _ hk=>hk.2) (.slice Ao55 t256.length co55)) (fun _ hk=>hk.1.2),by repeat (first|(with_reducible first|exact HB.out|apply yA|apply yB|apply yC|refine yD ?_ GE244.out|refine yD ?_ GE251.out)|exact HB.out)⟩
            ·replace c36:=Bool.eq_false_iff.mpr c36
             subst c36
             have H1:(some (y245,y248,false))=some (r1,r2,r3):=by rw [if_neg (show ¬ (false=true) by decide)] at H;exact H
             clear H
             have H:=H1
             clear H1
             simp only [Option.some.injEq,Prod.mk.injEq] at H
             obtain ⟨rfl,rfl,rfl⟩:=H
             go_wp2_with (first|((with_reducible refine gate_callee (f:=27) rfl ?_);refine goesL_ (some 43) rfl rfl Try.func27 (by kernel_rfl) rfl #[.string (a0.extract 0 (x5_1:Int).toNat)] rfl (by (try simp only [List.map_toArray,List.map_cons,List.map_nil]);first|done|rfl|(simp only [List.length_drop,List.length_take];rfl)) ?_;(with_reducible refine (spec_l1Signs.calls kj16 (a0.extract 0 (x5_1:Int).toNat) t252 true _ A29.out).mono ?_);rintro e w58 ⟨v254,rfl,ho0,hb⟩;refine ⟨_,rfl,?_⟩;have n0_:=Aside0.mk (Kd.R_elder' (by (with_reducible repeat (first|apply yH|apply yI|apply yJ));exact HO_252000.out) (Kd.R_base ho0) hb);have n1_:=Aside0.mk (Kd.R_elder' (by (with_reducible repeat (first|apply yH|apply yI|apply yJ));exact HO_252001.out) (Kd.R_base ho0) hb);have n2_:=Aside0.mk (Kd.R_lower (Kd.R_new' (Kd.R_new' ho0 (Kd.R_lt (by (with_reducible repeat (first|apply yH|apply yI|apply yJ));exact HO_252000.out))) (Kd.R_lt (by (with_reducible repeat (first|apply yH|apply yI|apply yJ));exact HO_252001.out))) (yQ (by repeat (first|(with_reducible first|exact HB.out|apply yA|apply yB|apply yC|refine yD ?_ GE244.out|refine yD ?_ GE251.out)|exact HB.out))));have n3_:=Aside0.mk (blk_below (g:=gb244) (o:=.cells #[.slice none 0 0,.slice none 0 0] 41 (0,0)) (by (with_reducible repeat (first|refine yE ?_ _|refine yF ?_|refine yG ?_ _));exact BK244.out) hb);have n4_:=Aside0.mk (blk_below (g:=gb251) (o:=.cells #[.slice Ao9 y245.length co9,.slice Ao8 y248.length co8] 41 (0,0)) (by (with_reducible repeat (first|refine yE ?_ _|refine yF ?_|refine yG ?_ _));exact BK251.out) hb);have n5_:=Aside0.mk (yP (by repeat (first|(with_reducible first|exact HB.out|apply yA|apply yB|apply yC|refine yD ?_ GE244.out|refine yD ?_ GE251.out)|exact HB.out)) hb);clear HO_252000;clear HO_252001;clear BK244;clear BK251;clear HB;have HO_252000:=n0_;have HO_252001:=n1_;have HO255:=n2_;have BK244:=n3_;have BK251:=n4_;have HB:=n5_;clear n0_ n1_ n2_ n3_ n4_ n5_;(try clear hb);(try clear hb2);(try clear hk);(try clear hi);(try clear ho0))|((with_reducible refine gate_callee (f:=27) rfl ?_);refine goesL_ (some 54) rfl rfl Try.func27 (by kernel_rfl) rfl #[.string (a0.extract ((ji30):Int).toNat ((wrap64 ((a0.size:Int) - 1)):Int).toNat)] rfl (by (try simp only [List.map_toArray,List.map_cons,List.map_nil]);first|done|(simp only [hji30];rfl)|rfl|(simp only [List.length_drop,List.length_take];rfl)) ?_;(with_reducible refine (spec_l1Signs.calls kj16 (a0.extract ((ji30):Int).toNat ((wrap64 ((a0.size:Int) - 1)):Int).toNat) t256 false _ A34.out).mono ?_);rintro e w59 ⟨v258,rfl,ho0,hb⟩;refine ⟨_,rfl,?_⟩;have n0_:=Aside0.mk (Kd.R_elder' (by (with_reducible repeat (first|apply yH|apply yI|apply yJ));exact HO_252000.out) (Kd.R_base ho0) hb);have n1_:=Aside0.mk (Kd.R_elder' (by (with_reducible repeat (first|apply yH|apply yI|apply yJ));exact HO_252001.out) (Kd.R_base ho0) hb);have n2_:=Aside0.mk (Kd.R_elder' (by (with_reducible repeat (first|apply yH|apply yI|apply yJ));exact HO255.out) (Kd.R_base ho0) hb);have n3_:=Aside0.mk (Kd.R_lower (Kd.R_new' (Kd.R_new' (Kd.R_new' ho0 (Kd.R_lt (by (with_reducible repeat (first|apply yH|apply yI|apply yJ));exact HO_252000.out))) (Kd.R_lt (by (with_reducible repeat (first|apply yH|apply yI|apply yJ));exact HO_252001.out))) (Kd.R_lt (by (with_reducible repeat (first|apply yH|apply yI|apply yJ));exact HO255.out))) (yQ (by repeat (first|(with_reducible first|exact HB.out|apply yA|apply yB|apply yC|refine yD ?_ GE244.out|refine yD ?_ GE251.out)|exact HB.out))));have n4_:=Aside0.mk (blk_below (g:=gb244) (o:=.cells #[.slice none 0 0,.slice none 0 0] 41 (0,0)) (by (with_reducible repeat (first|refine yE ?_ _|refine yF ?_|refine yG ?_ _));exact BK244.out) hb);have n5_:=Aside0.mk (blk_below (g:=gb251) (o:=.cells #[.slice Ao9 y245.length co9,.slice Ao8 y248.length co8] 41 (0,0)) (by (with_reducible repeat (first|refine yE ?_ _|refine yF ?_|refine yG ?_ _));exact BK251.out) hb);have n6_:=Aside0.mk (yP (by repeat (first|(with_reducible first|exact HB.out|apply yA|apply yB|apply yC|refine yD ?_ GE244.out|refine yD ?_ GE251.out)|exact HB.out)) hb);clear HO_252000;clear HO_252001;clear HO255;clear BK244;clear BK251;clear HB;have HO_252000:=n0_;have HO_252001:=n1_;have HO255:=n2_;have HO259:=n3_;have BK244:=n4_;have BK251:=n5_;have HB:=n6_;clear n0_ n1_ n2_ n3_ n4_ n5_ n6_;(try clear hb);(try clear hb2);(try clear hk);(try clear hi);(try clear ho0);have hnb60:=NB251_244.out;have hnc60:=NB244_251.out;have hcz61_0:w59.cell? ⟨gb251,0,none⟩=some (.slice Ao9 y245.length co9):=(blk_cell BK251.out 0).trans rfl;have hcz61_1:w59.cell? ⟨gb251,1,none⟩=some (.slice Ao8 y248.length co8):=(blk_cell BK251.out 1).trans rfl;have hfz61_0:=blk_frozen BK251.out 0;have hfz61_1:=blk_frozen BK251.out 1;have hcz62_0:w59.cell? ⟨gb244,0,none⟩=some (.slice none 0 0):=(blk_cell BK244.out 0).trans rfl;have hcz62_1:w59.cell? ⟨gb244,1,none⟩=some (.slice none 0 0):=(blk_cell BK244.out 1).trans rfl;have hfz62_0:=blk_frozen BK244.out 0;have hfz62_1:=blk_frozen BK244.out 1))
             refine bodyPost_ret (results_ct rfl _ _ gb244 41 #[.slice Ao9 y245.length co9,.slice Ao8 y248.length co8] (0,0) _ rfl (by (with_reducible repeat (first|refine yE ?_ _|refine yF ?_|refine yG ?_ _));refine blk_put (cs:=#[.slice Ao9 y245.length co9,.slice none 0 0]) ?_ 1 _ rfl;(with_reducible repeat (first|refine yE ?_ _|refine yF ?_|refine yG ?_ _));refine blk_put (cs:=#[.slice none 0 0,.slice none 0 0]) ?_ 0 _ rfl;(with_reducible repeat (first|refine yE ?_ _|refine yF ?_|refine yG ?_ _));exact BK244.out) Try.underlying41 rfl (by kernel_rfl)) rfl ?_
             exact ⟨_,_,by first|rfl|(simp [errW_none,errW_some]<;>rfl)|(simp only [← hji30];first|rfl|(simp [errW_none,errW_some]<;>rfl))|(simp [*,errW_none,errW_some]<;>rfl),by (with_reducible repeat (first|apply yH|apply yI|apply yJ));exact Kd.R_mono (Kd.R_far (p:=⟨gb244,1,none⟩) (Kd.R_far (p:=⟨gb244,0,none⟩) (Kd.R_types HO_252000.out BK244.out (by decide)) (fun _ hk=>hk.2) (.slice Ao9 y245.length co9)) (fun _ hk=>hk.2) (.slice Ao8 y248.length co8)) (fun _ hk=>hk.1.1.1),by (with_reducible repeat (first|apply yH|apply yI|apply yJ));exact Kd.R_mono (Kd.R_far (p:=⟨gb244,1,none⟩) (Kd.R_far (p:=⟨gb244,0,none⟩) (Kd.R_types HO_252001.out BK244.out (by decide)) (fun _ hk=>hk.2) (.slice Ao9 y245.length co9)) (fun _ hk=>hk.2) (.slice Ao8 y248.length co8)) (fun _ hk=>hk.1.1.1),by repeat (first|(with_reducible first|exact HB.out|apply yA|apply yB|apply yC|refine yD ?_ GE244.out|refine yD ?_ GE251.out)|exact HB.out)⟩
           ·replace c35:=Bool.eq_false_iff.mpr c35
            subst c35
            have H1:(some (y245,y248,false))=some (r1,r2,r3):=by rw [if_neg (show ¬ (false=true) by decide)] at H;exact H
            clear H
            have H:=H1
            clear H1
            simp only [Option.some.injEq,Prod.mk.injEq] at H
            obtain ⟨rfl,rfl,rfl⟩:=H
            go_wp2_with (first|((with_reducible refine gate_callee (f:=27) rfl ?_);refine goesL_ (some 43) rfl rfl Try.func27 (by kernel_rfl) rfl #[.string (a0.extract 0 (x5_1:Int).toNat)] rfl (by (try simp only [List.map_toArray,List.map_cons,List.map_nil]);first|done|rfl|(simp only [List.length_drop,List.length_take];rfl)) ?_;(with_reducible refine (spec_l1Signs.calls kj16 (a0.extract 0 (x5_1:Int).toNat) t252 false _ A29.out).mono ?_);rintro e w63 ⟨v254,rfl,ho0,hb⟩;refine ⟨_,rfl,?_⟩;have n0_:=Aside0.mk (Kd.R_elder' (by (with_reducible repeat (first|apply yH|apply yI|apply yJ));exact HO_252000.out) (Kd.R_base ho0) hb);have n1_:=Aside0.mk (Kd.R_elder' (by (with_reducible repeat (first|apply yH|apply yI|apply yJ));exact HO_252001.out) (Kd.R_base ho0) hb);have n2_:=Aside0.mk (Kd.R_lower (Kd.R_new' (Kd.R_new' ho0 (Kd.R_lt (by (with_reducible repeat (first|apply yH|apply yI|apply yJ));exact HO_252000.out))) (Kd.R_lt (by (with_reducible repeat (first|apply yH|apply yI|apply yJ));exact HO_252001.out))) (yQ (by repeat (first|(with_reducible first|exact HB.out|apply yA|apply yB|apply yC|refine yD ?_ GE244.out|refine yD ?_ GE251.out)|exact HB.out))));have n3_:=Aside0.mk (blk_below (g:=gb244) (o:=.cells #[.slice none 0 0,.slice none 0 0] 41 (0,0)) (by (with_reducible repeat (first|refine yE ?_ _|refine yF ?_|refine yG ?_ _));exact BK244.out) hb);have n4_:=Aside0.mk (blk_below (g:=gb251) (o:=.cells #[.slice Ao9 y245.length co9,.slice Ao8 y248.length co8] 41 (0,0)) (by (with_reducible repeat (first|refine yE ?_ _|refine yF ?_|refine yG ?_ _));exact BK251.out) hb);have n5_:=Aside0.mk (yP (by repeat (first|(with_reducible first|exact HB.out|apply yA|apply yB|apply yC|refine yD ?_ GE244.out|refine yD ?_ GE251.out)|exact HB.out)) hb);clear HO_252000;clear HO_252001;clear BK244;clear BK251;clear HB;have HO_252000:=n0_;have HO_252001:=n1_;have HO255:=n2_;have BK244:=n3_;have BK251:=n4_;have HB:=n5_;clear n0_ n1_ n2_ n3_ n4_ n5_;(try clear hb);(try clear hb2);(try clear hk);(try clear hi);(try clear ho0))|((with_reducible refine gate_callee (f:=27) rfl ?_);refine goesL_ (some 54) rfl rfl Try.func27 (by kernel_rfl) rfl #[.string (a0.extract ((ji30):Int).toNat ((wrap64 ((a0.size:Int) - 1)):Int).toNat)] rfl (by (try simp only [List.map_toArray,List.map_cons,List.map_nil]);first|done|(simp only [hji30];rfl)|rfl|(simp only [List.length_drop,List.length_take];rfl)) ?_;(with_reducible refine (spec_l1Signs.calls kj16 (a0.extract ((ji30):Int).toNat ((wrap64 ((a0.size:Int) - 1)):Int).toNat) t256 t257 _ A34.out).mono ?_);rintro e w64 ⟨v258,rfl,ho0,hb⟩;refine ⟨_,rfl,?_⟩;have n0_:=Aside0.mk (Kd.R_elder' (by (with_reducible repeat (first|apply yH|apply yI|apply yJ));exact HO_252000.out) (Kd.R_base ho0) hb);have n1_:=Aside0.mk (Kd.R_elder' (by (with_reducible repeat (first|apply yH|apply yI|apply yJ));exact HO_252001.out) (Kd.R_base ho0) hb);have n2_:=Aside0.mk (Kd.R_elder' (by (with_reducible repeat (first|apply yH|apply yI|apply yJ));exact HO255.out) (Kd.R_base ho0) hb);have n3_:=Aside0.mk (Kd.R_lower (Kd.R_new' (Kd.R_new' (Kd.R_new' ho0 (Kd.R_lt (by (with_reducible repeat (first|apply yH|apply yI|apply yJ));exact HO_252000.out))) (Kd.R_lt (by (with_reducible repeat (first|apply yH|apply yI|apply yJ));exact HO_252001.out))) (Kd.R_lt (by (with_reducible repeat (first|apply yH|apply yI|apply yJ));exact HO255.out))) (yQ (by repeat (first|(with_reducible first|exact HB.out|apply yA|apply yB|apply yC|refine yD ?_ GE244.out|refine yD ?_ GE251.out)|exact HB.out))));have n4_:=Aside0.mk (blk_below (g:=gb244) (o:=.cells #[.slice none 0 0,.slice none 0 0] 41 (0,0)) (by (with_reducible repeat (first|refine yE ?_ _|refine yF ?_|refine yG ?_ _));exact BK244.out) hb);have n5_:=Aside0.mk (blk_below (g:=gb251) (o:=.cells #[.slice Ao9 y245.length co9,.slice Ao8 y248.length co8] 41 (0,0)) (by (with_reducible repeat (first|refine yE ?_ _|refine yF ?_|refine yG ?_ _));exact BK251.out) hb);have n6_:=Aside0.mk (yP (by repeat (first|(with_reducible first|exact HB.out|apply yA|apply yB|apply yC|refine yD ?_ GE244.out|refine yD ?_ GE251.out)|exact HB.out)) hb);clear HO_252000;clear HO_252001;clear HO255;clear BK244;clear BK251;clear HB;have HO_252000:=n0_;have HO_252001:=n1_;have HO255:=n2_;have HO259:=n3_;have BK244:=n4_;have BK251:=n5_;have HB:=n6_;clear n0_ n1_ n2_ n3_ n4_ n5_ n6_;(try clear hb);(try clear hb2);(try clear hk);(try clear hi);(try clear ho0);have hnb65:=NB251_244.out;have hnc65:=NB244_251.out;have hcz66_0:w64.cell? ⟨gb251,0,none⟩=some (.slice Ao9 y245.length co9):=(blk_cell BK251.out 0).trans rfl;have hcz66_1:w64.cell? ⟨gb251,1,none⟩=some (.slice Ao8 y248.length co8):=(blk_cell BK251.out 1).trans rfl;have hfz66_0:=blk_frozen BK251.out 0;have hfz66_1:=blk_frozen BK251.out 1;have hcz67_0:w64.cell? ⟨gb244,0,none⟩=some (.slice none 0 0):=(blk_cell BK244.out 0).trans rfl;have hcz67_1:w64.cell? ⟨gb244,1,none⟩=some (.slice none 0 0):=(blk_cell BK244.out 1).trans rfl;have hfz67_0:=blk_frozen BK244.out 0;have hfz67_1:=blk_frozen BK244.out 1))
            refine bodyPost_ret (results_ct rfl _ _ gb244 41 #[.slice Ao9 y245.length co9,.slice Ao8 y248.length co8] (0,0) _ rfl (by (with_reducible repeat (first|refine yE ?_ _|refine yF ?_|refine yG ?_ _));refine blk_put (cs:=#[.slice Ao9 y245.length co9,.slice none 0 0]) ?_ 1 _ rfl;(with_reducible repeat (first|refine yE ?_ _|refine yF ?_|refine yG ?_ _));refine blk_put (cs:=#[.slice none 0 0,.slice none 0 0]) ?_ 0 _ rfl;(with_reducible repeat (first|refine yE ?_ _|refine yF ?_|refine yG ?_ _));exact BK244.out) Try.underlying41 rfl (by kernel_rfl)) rfl ?_
            exact ⟨_,_,by first|rfl|(simp [errW_none,errW_some]<;>rfl)|(simp only [← hji30];first|rfl|(simp [errW_none,errW_some]<;>rfl))|(simp [*,errW_none,errW_some]<;>rfl),by (with_reducible repeat (first|apply yH|apply yI|apply yJ));exact Kd.R_mono (Kd.R_far (p:=⟨gb244,1,none⟩) (Kd.R_far (p:=⟨gb244,0,none⟩) (Kd.R_types HO_252000.out BK244.out (by decide)) (fun _ hk=>hk.2) (.slice Ao9 y245.length co9)) (fun _ hk=>hk.2) (.slice Ao8 y248.length co8)) (fun _ hk=>hk.1.1.1),by (with_reducible repeat (first|apply yH|apply yI|apply yJ));exact Kd.R_mono (Kd.R_far (p:=⟨gb244,1,none⟩) (Kd.R_far (p:=⟨gb244,0,none⟩) (Kd.R_types HO_252001.out BK244.out (by decide)) (fun _ hk=>hk.2) (.slice Ao9 y245.length co9)) (fun _ hk=>hk.2) (.slice Ao8 y248.length co8)) (fun _ hk=>hk.1.1.1),by repeat (first|(with_reducible first|exact HB.out|apply yA|apply yB|apply yC|refine yD ?_ GE244.out|refine yD ?_ GE251.out)|exact HB.out)⟩
          ·rw [if_neg c33] at H
           exact absurd H (by simp)
         ·rw [if_neg c32] at H
          exact absurd H (by simp)
        ·rw [if_neg c31] at H
         exact absurd H (by simp)
       ·rw [if_neg c28] at H
        exact absurd H (by simp)
      ·rw [if_neg c27] at H
       exact absurd H (by simp)

end Go.Proofs.Ytnmkinnfbbehnaa.P

namespace Go.Proofs.Ytnmkinnfbbehnaa.P
open Go.RowKit Go.Proofs.YtnmkinnfbbehnaaW.PrintWords Go.Proofs.YtnmkinnfbbehnaaW.PrintLast Go.Proofs.YtnmkinnfbbehnaaW.PrintMore
attribute [local go_sem] max2_int min2_int max_two min_two max_three min_three max_four min_four   -- for this text's walks alone
set_option linter.unusedVariables false
set_option linter.unusedSimpArgs false

/-! ### spec_l4Least: function 14 -/
def spec_l4Least.l0:Nat→Int→List Bool→List Bool→Option (Int)
 | 0,_,_,_=>none
 | k+1,x3,x320000,x320001=>if x3≤20 then ((spec_l1Has.f x320000 x320001 x3).bind fun t320=>(if t320=true then (some x3) else (spec_l4Least.l0 k (wrap64 (x3+1)) x320000 x320001))) else (some 0)
def spec_l4Least.f (k:Nat) (l0_0:List Bool) (l0_1:List Bool):Option (Int):=spec_l4Least.l0 k 1 l0_0 l0_1
theorem spec_l4Least.mono_l:∀ k,(∀ y0 y1 y2,LeO (spec_l4Least.l0 k y0 y1 y2) (spec_l4Least.l0 (k+1) y0 y1 y2))
 | 0=>fun _ _ _ r h=>by simp [spec_l4Least.l0] at h
 | k+1=>by
  have ih0:=spec_l4Least.mono_l k
  ·intro y0 y1 y2
   unfold spec_l4Least.l0
   repeat' first
   | (with_reducible exact ih0 _ _ _)
   | (with_reducible exact LeO.refl _)
   | (with_reducible exact LeO.none _)
   | (with_reducible refine LeO.ite ?_ ?_)
   | (with_reducible refine LeO.bind ?_ (fun _=>?_))
   | exact ih0 _ _ _
   | exact LeO.none _
   | refine LeO.ite ?_ ?_
   | refine LeO.bind ?_ (fun _=>?_)
theorem spec_l4Least.mono:∀ a0 a1 k,LeO (spec_l4Least.f k a0 a1) (spec_l4Least.f (k+1) a0 a1):=by
 intro a0 a1 k
 have ih0:=spec_l4Least.mono_l k
 unfold spec_l4Least.f
 repeat' first
   | (with_reducible exact ih0 _ _ _)
   | (with_reducible exact LeO.refl _)
   | (with_reducible exact LeO.none _)
   | (with_reducible refine LeO.ite ?_ ?_)
   | (with_reducible refine LeO.bind ?_ (fun _=>?_))
   | exact ih0 _ _ _
   | exact LeO.none _
   | refine LeO.ite ?_ ?_
   | refine LeO.bind ?_ (fun _=>?_)
set_option maxHeartbeats 8000000 in
set_option maxRecDepth 100000 in
theorem spec_l4Least.calls (k:Nat) (A0_0:Option Addr) (c0_0:Nat) (l0_0:List Bool) (A0_1:Option Addr) (c0_1:Nat) (l0_1:List Bool) (r:Int) (w:World) (hr0_0:Kd.C Kd.bool w A0_0 l0_0.length l0_0) (hc0_0:l0_0.length≤c0_0) (hr0_1:Kd.C Kd.bool w A0_1 l0_1.length l0_1) (hc0_1:l0_1.length≤c0_1) (h:spec_l4Least.f k l0_0 l0_1=some r) :
  Calls Try.prog 14 #[.agg #[.slice A0_0 l0_0.length c0_0,.slice A0_1 l0_1.length c0_1]] w fun e w'=>e=.returned (.int .i64 r)∧Below w.heap.size w w':=by
 have hu41:=Try.underlying41
 have HR0_0:=Aside0.mk hr0_0
 have HC0_0:=Aside0.mk hc0_0
 clear hr0_0 hc0_0
 have HR0_1:=Aside0.mk hr0_1
 have HC0_1:=Aside0.mk hc0_1
 clear hr0_1 hc0_1
 have HB:=Aside0.mk (Below.refl w.heap.size w)
 have H:(spec_l4Least.l0 k 1 l0_0 l0_1)=some r:=h
 clear h
 have H':=Aside0.mk H
 clear H
 go_enter Try.func14,Try.ntmps14
 go_wp2_with (first|((with_reducible refine gate_dst (N:=1) rfl ?_);refine box_event ?hg (N:=1) ?hd (cs:=#[.slice A0_0 l0_0.length c0_0,.slice A0_1 l0_1.length c0_1]) (t:=41) ?hr ?_;(case hd=>rfl);(case hg=>rfl);(case hr=>first|(go_simp;done)|(go_simp;rfl));intro gb319 hg w2 hbox hb;have n0_:=Aside0.mk (yP (by repeat (first|(with_reducible first|exact HB.out|apply yA|apply yB|apply yC)|exact HB.out)) hb);have n1_:=Aside0.mk (hbox);have n2_:=Aside0.mk ((by rw [hg];exact (yQ (by repeat (first|(with_reducible first|exact HB.out|apply yA|apply yB|apply yC)|exact HB.out))):w.heap.size≤gb319));have n3_:=Aside0.mk ((by rw [hg];exact (yQ (by repeat (first|(with_reducible first|exact HB.out|apply yA|apply yB|apply yC)|exact HB.out))):w.heap.size≤gb319));clear HB;have HB:=n0_;have BK319:=n1_;have GW319:=n2_;have GE319:=n3_;clear n0_ n1_ n2_ n3_;clear hb hbox hg))
 go_loopg [3] k (fun kq v3 w'=>∃ (x3_1:Int),v3=.int .i64 x3_1∧Aside0 (spec_l4Least.l0 kq x3_1 l0_0 l0_1=some r)∧Aside0 (kq≤k)∧Aside0 (w'.heap[gb319]?=some (.cells #[(.slice A0_0 l0_0.length c0_0),(.slice A0_1 l0_1.length c0_1)] 41 (0,0)))∧Aside0 (Below w.heap.size w w'))
 case atStart=>exact ⟨(1),(by first|rfl|(simp;done)|(simp [*];done)|(simp [Int.tmod_eq_emod_of_nonneg];done)),H',⟨Nat.le_refl _⟩,⟨by (with_reducible repeat (first|refine yE ?_ _|refine yF ?_|refine yG ?_ _));exact BK319.out⟩,⟨by repeat (first|(with_reducible first|exact HB.out|apply yA|apply yB|apply yC|refine yD ?_ GE319.out)|exact HB.out)⟩⟩
 case round =>
  clear H'
  try clear c1
  try clear p2
  obtain ⟨x3_1,rfl,HA,HK1,BK319,HB⟩:=hrel
  cases gk with
  | zero=>exact absurd HA.out (by simp [spec_l4Least.l0])
  | succ k1 =>
   have H:=HA.out
   clear HA
   simp only [spec_l4Least.l0] at H
   by_cases c3:x3_1≤20
   ·rw [if_pos c3] at H
    have c3b0:decide (x3_1≤20)=true:=decide_eq_true c3
    clear c3
    replace H:=Option.bind_eq_some_iff.mp H
    obtain ⟨t320,A40,H⟩:=H
    replace H:(if t320=true then (some x3_1) else (spec_l4Least.l0 k1 (wrap64 (x3_1+1)) l0_0 l0_1))=some r:=H
    have A4:=Aside0.mk A40
    clear A40
    by_cases c5:t320=true
    ·subst c5
     have H1:(some x3_1)=some r:=by rw [if_pos rfl] at H;exact H
     clear H
     have H:=H1
     clear H1
     obtain rfl:=Option.some.inj H
     have hcz6_0:wr.cell? ⟨gb319,0,none⟩=some (.slice A0_0 l0_0.length c0_0):=(blk_cell BK319.out 0).trans rfl
     have hcz6_1:wr.cell? ⟨gb319,1,none⟩=some (.slice A0_1 l0_1.length c0_1):=(blk_cell BK319.out 1).trans rfl
     have hfz6_0:=blk_frozen BK319.out 0
     have hfz6_1:=blk_frozen BK319.out 1
     go_wp2_with (first|((with_reducible refine gate_callee (f:=24) rfl ?_);refine goesL_ (some 10) rfl rfl Try.func24 (by kernel_rfl) rfl #[.agg #[.slice A0_0 l0_0.length c0_0,.slice A0_1 l0_1.length c0_1],.int .i64 x3_1] rfl (by (try simp only [List.map_toArray,List.map_cons,List.map_nil]);first|done|rfl|(simp only [List.length_drop,List.length_take];rfl)) ?_;(with_reducible refine (spec_l1Has.calls _ _ l0_0 _ _ l0_1 x3_1 true _ ?side1 ?side2 ?side3 ?side4 A4.out).mono ?_);(case side1=>repeat (first|exact (Kd.C_below HR0_0.out HB.out)|(with_reducible refine Kd.C_alloc ?_ _)|(with_reducible refine Kd.C_drewN ?_ _)|(with_reducible refine Kd.C_drew ?_)));(case side2=>exact HC0_0.out);(case side3=>repeat (first|exact (Kd.C_below HR0_1.out HB.out)|(with_reducible refine Kd.C_alloc ?_ _)|(with_reducible refine Kd.C_drewN ?_ _)|(with_reducible refine Kd.C_drew ?_)));(case side4=>exact HC0_1.out);rintro e w7 ⟨rfl,hb⟩;refine ⟨_,rfl,?_⟩;have n0_:=Aside0.mk (blk_below (g:=gb319) (o:=.cells #[.slice A0_0 l0_0.length c0_0,.slice A0_1 l0_1.length c0_1] 41 (0,0)) (by (with_reducible repeat (first|refine yE ?_ _|refine yF ?_|refine yG ?_ _));exact BK319.out) hb);have n1_:=Aside0.mk (yP (by repeat (first|(with_reducible first|exact HB.out|apply yA|apply yB|apply yC|refine yD ?_ GE319.out)|exact HB.out)) hb);clear BK319;clear HB;have BK319:=n0_;have HB:=n1_;clear n0_ n1_;(try clear hb);(try clear hb2);(try clear hk);(try clear hi)))
     go_ret
     exact ⟨by first|rfl|(simp [errW_none,errW_some]<;>rfl)|(simp [*,errW_none,errW_some]<;>rfl)|(simp [errW_none,errW_some];exact ⟨rfl,rfl⟩),by repeat (first|(with_reducible first|exact HB.out|apply yA|apply yB|apply yC|refine yD ?_ GE319.out)|exact HB.out)⟩
    ·replace c5:=Bool.eq_false_iff.mpr c5
     subst c5
     have H1:(spec_l4Least.l0 k1 (wrap64 (x3_1+1)) l0_0 l0_1)=some r:=by rw [if_neg (show ¬ (false=true) by decide)] at H;exact H
     clear H
     have H:=H1
     clear H1
     have H':=Aside0.mk H
     clear H
     have hcz8_0:wr.cell? ⟨gb319,0,none⟩=some (.slice A0_0 l0_0.length c0_0):=(blk_cell BK319.out 0).trans rfl
     have hcz8_1:wr.cell? ⟨gb319,1,none⟩=some (.slice A0_1 l0_1.length c0_1):=(blk_cell BK319.out 1).trans rfl
     have hfz8_0:=blk_frozen BK319.out 0
     have hfz8_1:=blk_frozen BK319.out 1
     go_wp2_with (first|((with_reducible refine gate_callee (f:=24) rfl ?_);refine goesL_ (some 10) rfl rfl Try.func24 (by kernel_rfl) rfl #[.agg #[.slice A0_0 l0_0.length c0_0,.slice A0_1 l0_1.length c0_1],.int .i64 x3_1] rfl (by (try simp only [List.map_toArray,List.map_cons,List.map_nil]);first|done|rfl|(simp only [List.length_drop,List.length_take];rfl)) ?_;(with_reducible refine (spec_l1Has.calls _ _ l0_0 _ _ l0_1 x3_1 false _ ?side1 ?side2 ?side3 ?side4 A4.out).mono ?_);(case side1=>repeat (first|exact (Kd.C_below HR0_0.out HB.out)|(with_reducible refine Kd.C_alloc ?_ _)|(with_reducible refine Kd.C_drewN ?_ _)|(with_reducible refine Kd.C_drew ?_)));(case side2=>exact HC0_0.out);(case side3=>repeat (first|exact (Kd.C_below HR0_1.out HB.out)|(with_reducible refine Kd.C_alloc ?_ _)|(with_reducible refine Kd.C_drewN ?_ _)|(with_reducible refine Kd.C_drew ?_)));(case side4=>exact HC0_1.out);rintro e w9 ⟨rfl,hb⟩;refine ⟨_,rfl,?_⟩;have n0_:=Aside0.mk (blk_below (g:=gb319) (o:=.cells #[.slice A0_0 l0_0.length c0_0,.slice A0_1 l0_1.length c0_1] 41 (0,0)) (by (with_reducible repeat (first|refine yE ?_ _|refine yF ?_|refine yG ?_ _));exact BK319.out) hb);have n1_:=Aside0.mk (yP (by repeat (first|(with_reducible first|exact HB.out|apply yA|apply yB|apply yC|refine yD ?_ GE319.out)|exact HB.out)) hb);clear BK319;clear HB;have BK319:=n0_;have HB:=n1_;clear n0_ n1_;(try clear hb);(try clear hb2);(try clear hk);(try clear hi)))
     go_roundg k1
     case measure=>have:=HK1.out;omega
     case rel=>exact ⟨(wrap64 (x3_1+1)),(by first|rfl|(simp;done)|(simp [*];done)|(simp [Int.tmod_eq_emod_of_nonneg];done)),H',⟨by have:=HK1.out;omega⟩,⟨by (with_reducible repeat (first|refine yE ?_ _|refine yF ?_|refine yG ?_ _));exact BK319.out⟩,⟨by repeat (first|(with_reducible first|exact HB.out|apply yA|apply yB|apply yC|refine yD ?_ GE319.out)|exact HB.out)⟩⟩
   ·rw [if_neg c3] at H
    have c3b0:decide (x3_1≤20)=false:=decide_eq_false c3
    clear c3
    obtain rfl:=Option.some.inj H
    go_wp2
    go_ret
    exact ⟨by first|rfl|(simp [errW_none,errW_some]<;>rfl)|(simp [*,errW_none,errW_some]<;>rfl)|(simp [errW_none,errW_some];exact ⟨rfl,rfl⟩),by repeat (first|(with_reducible first|exact HB.out|apply yA|apply yB|apply yC|refine yD ?_ GE319.out)|exact HB.out)⟩

end Go.Proofs.Ytnmkinnfbbehnaa.P
