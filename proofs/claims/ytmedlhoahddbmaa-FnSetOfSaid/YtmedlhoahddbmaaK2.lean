/- What these laws reach, joined by a program of this session: contracts (written by that program over the kit's print, or by hand) and plain lemmas. -/
import Derived.Test.YtmedlhoahddbmaaK1
namespace Go.Proofs.Ytmedlhoahddbmaa.P
open Go.RowKit Go.Proofs.YtmedlhoahddbmaaW.PrintWords Go.Proofs.YtmedlhoahddbmaaW.PrintLast Go.Proofs.YtmedlhoahddbmaaW.PrintMore
attribute [local go_sem] max2_int min2_int max_two min_two max_three min_three max_four min_four   -- for this text's walks alone
set_option linter.unusedVariables false
set_option linter.unusedSimpArgs false

/-! ### spec_l1Less: function 28 -/
mutual
def spec_l1Less.l0:Nat → Int → Int → List Bool → List Bool → Option (List Bool × List Bool)
 | 0,_,_,_,_=>none
 | k + 1,x3,x4,x207000,x207001=>if x4 < x3 then (if x4 = 0 then (none) else (spec_l1Less.l1 k x3 x4 ((Int.tmod x3 x4) == 0) x4 x207000 x207001)) else (if (x207000.length:Int) > 0 then (if 0≤(wrap64 ((x207000.length:Int) - 1)) then (if (wrap64 ((x207000.length:Int) - 1)) < (x207000.length:Int) then (if 0≤(wrap64 (x3 - 1)) then (if (wrap64 (x3 - 1)) < (x207001.length:Int) then (if ((rdOf false x207000 (wrap64 ((x207000.length:Int) - 1))) == (rdOf false x207001 (wrap64 (x3 - 1)))) = true then ((some (([rdOf false x207001 (wrap64 (x3 - 1))]:List Bool):List Bool)).bind fun y211=>(if (wrap64 (x3 - 1))≤(x207001.length:Int) then ((some (x207001.take ((wrap64 (x3 - 1)):Int).toNat:List Bool)).bind fun y214=>(if y211.length + y214.length < 140737488355328 then (if (wrap64 ((x207000.length:Int) - 1))≤(x207000.length:Int) then ((spec_l1Less.f k (x207000.take ((wrap64 ((x207000.length:Int) - 1)):Int).toNat) (y211 ++ y214)).bind fun bt227=>(some (bt227.1,bt227.2))) else (none)) else (none))) else (none))) else (some (x207000,x207001))) else (none)) else (none)) else (none)) else (none)) else (some (x207000,x207001)))
def spec_l1Less.l1:Nat → Int → Int → Bool → Int → List Bool → List Bool → Option (List Bool × List Bool)
 | 0,_,_,_,_,_,_=>none
 | k + 1,x3,x4,x5,x6,x207000,x207001=>if x6 < x3 then (if x5 = true then (if 0≤x6 then (if x6 < (x207001.length:Int) then (if 0≤(wrap64 (x6 - x4)) then (if (wrap64 (x6 - x4)) < (x207001.length:Int) then (spec_l1Less.l1 k x3 x4 ((rdOf false x207001 x6) == (rdOf false x207001 (wrap64 (x6 - x4)))) (wrap64 (x6 + 1)) x207000 x207001) else (none)) else (none)) else (none)) else (none)) else (spec_l1Less.l0 k x3 (wrap64 (x4 + 1)) x207000 x207001)) else (if x5 = true then (if 0≤x4 then (if x4≤(x207001.length:Int) then ((spec_l1Less.f k x207000 (x207001.take (x4:Int).toNat)).bind fun bt240=>(some (bt240.1,bt240.2))) else (none)) else (none)) else (spec_l1Less.l0 k x3 (wrap64 (x4 + 1)) x207000 x207001))
def spec_l1Less.f:Nat → List Bool → List Bool → Option (List Bool × List Bool)
 | 0,_,_=>none
 | k + 1,l0_0,l0_1=>spec_l1Less.l0 k (l0_1.length:Int) 1 l0_0 l0_1
end
theorem spec_l1Less.mono_l:∀ k,(∀ y0 y1,LeO (spec_l1Less.f k y0 y1) (spec_l1Less.f (k + 1) y0 y1))∧(∀ y0 y1 y2 y3,LeO (spec_l1Less.l0 k y0 y1 y2 y3) (spec_l1Less.l0 (k + 1) y0 y1 y2 y3))∧(∀ y0 y1 y2 y3 y4 y5,LeO (spec_l1Less.l1 k y0 y1 y2 y3 y4 y5) (spec_l1Less.l1 (k + 1) y0 y1 y2 y3 y4 y5))
 | 0=>⟨fun _ _ r h=>by simp [spec_l1Less.f] at h,fun _ _ _ _ r h=>by simp [spec_l1Less.l0] at h,fun _ _ _ _ _ _ r h=>by simp [spec_l1Less.l1] at h⟩
 | k + 1=>by
  obtain ⟨ih0,ih1,ih2⟩:=spec_l1Less.mono_l k
  refine ⟨?_,?_,?_⟩
  ·intro y0 y1
   unfold spec_l1Less.f
   repeat' first
   | (with_reducible exact ih0 _ _)
   | (with_reducible exact ih1 _ _ _ _)
   | (with_reducible exact ih2 _ _ _ _ _ _)
   | (with_reducible exact LeO.refl _)
   | (with_reducible exact LeO.none _)
   | (with_reducible refine LeO.ite ?_ ?_)
   | (with_reducible refine LeO.bind ?_ (fun _=>?_))
   | exact ih0 _ _
   | exact ih1 _ _ _ _
   | exact ih2 _ _ _ _ _ _
   | exact LeO.none _
   | refine LeO.ite ?_ ?_
   | refine LeO.bind ?_ (fun _=>?_)
  ·intro y0 y1 y2 y3
   unfold spec_l1Less.l0
   repeat' first
   | (with_reducible exact ih0 _ _)
   | (with_reducible exact ih1 _ _ _ _)
   | (with_reducible exact ih2 _ _ _ _ _ _)
   | (with_reducible exact LeO.refl _)
   | (with_reducible exact LeO.none _)
   | (with_reducible refine LeO.ite ?_ ?_)
   | (with_reducible refine LeO.bind ?_ (fun _=>?_))
   | exact ih0 _ _
   | exact ih1 _ _ _ _
   | exact ih2 _ _ _ _ _ _
   | exact LeO.none _
   | refine LeO.ite ?_ ?_
   | refine LeO.bind ?_ (fun _=>?_)
  ·intro y0 y1 y2 y3 y4 y5
   unfold spec_l1Less.l1
   repeat' first
   | (with_reducible exact ih0 _ _)
   | (with_reducible exact ih1 _ _ _ _)
   | (with_reducible exact ih2 _ _ _ _ _ _)
   | (with_reducible exact LeO.refl _)
   | (with_reducible exact LeO.none _)
   | (with_reducible refine LeO.ite ?_ ?_)
   | (with_reducible refine LeO.bind ?_ (fun _=>?_))
   | exact ih0 _ _
   | exact ih1 _ _ _ _
   | exact ih2 _ _ _ _ _ _
   | exact LeO.none _
   | refine LeO.ite ?_ ?_
   | refine LeO.bind ?_ (fun _=>?_)
theorem spec_l1Less.mono:∀ a0 a1 k,LeO (spec_l1Less.f k a0 a1) (spec_l1Less.f (k + 1) a0 a1):=by
 intro a0 a1 k
 obtain ⟨ih0,ih1,ih2⟩:=spec_l1Less.mono_l k
 exact ih0 a0 a1
def spec_l1Less.T9:Bool × List (List Nat × List Nat):=(true,[([],[]),([0],[0]),([],[]),([1,2],[1,2]),([3],[3]),([],[]),([5],[5]),([],[]),([],[]),([7,8],[7,8]),([6,9],[6,9]),([10],[10]),([4,11],[4,11]),([12,0,1,2,3,4,5,6,7,8,9,10,11,12],[12])])
def spec_l1Less.B9:List Nat:=[0,1,0,7,15,0,32,0,0,384,992,2016,4095,8191]
theorem spec_l1Less.tab9:rtab .any (opsOf Try.f28 9) = spec_l1Less.T9:=by kernel_rfl
theorem spec_l1Less.bits9:waitsOk spec_l1Less.T9.2 spec_l1Less.B9 = true:=by kernel_rfl
def spec_l1Less.T11:Bool × List (List Nat × List Nat):=(true,[([],[]),([0],[0]),([],[]),([2],[2]),([],[]),([3,4],[3,4]),([1,5],[1,5]),([6],[6]),([7,7,0,1,2,3,4,5,6,7],[7])])
def spec_l1Less.B11:List Nat:=[0,1,0,4,0,28,63,127,255]
theorem spec_l1Less.tab11:rtab .any (opsOf Try.f28 11) = spec_l1Less.T11:=by kernel_rfl
theorem spec_l1Less.bits11:waitsOk spec_l1Less.T11.2 spec_l1Less.B11 = true:=by kernel_rfl
def spec_l1Less.T13:Bool × List (List Nat × List Nat):=(true,[([],[]),([0],[0]),([1],[1]),([2],[2]),([3,2],[2,3]),([2],[2]),([5,2],[2,5]),([4,6,2],[2,4,6]),([7,2],[2,7]),([2],[2]),([9,2],[2,9]),([2],[2]),([11,2],[2,11]),([10,12,2],[2,10,12]),([13,2],[2,13]),([8,14,2],[2,8,14]),([2,15],[2,15])])
def spec_l1Less.B13:List Nat:=[0,1,3,7,15,7,39,127,255,7,519,7,2055,7687,15879,32767,65535]
theorem spec_l1Less.tab13:rtab .any (opsOf Try.f28 13) = spec_l1Less.T13:=by kernel_rfl
theorem spec_l1Less.bits13:waitsOk spec_l1Less.T13.2 spec_l1Less.B13 = true:=by kernel_rfl
def spec_l1Less.T14:Bool × List (List Nat × List Nat):=(true,[([],[]),([0],[0]),([],[]),([2],[2]),([1,3],[1,3]),([4],[4]),([5],[5]),([],[]),([7],[7]),([],[]),([9],[9]),([8,10],[8,10]),([6,11],[6,11]),([12,12,0,1,2,3,4,5,6,7,8,9,10,11,12],[12])])
def spec_l1Less.B14:List Nat:=[0,1,0,4,15,31,63,0,128,0,512,1920,4095,8191]
theorem spec_l1Less.tab14:rtab .any (opsOf Try.f28 14) = spec_l1Less.T14:=by kernel_rfl
theorem spec_l1Less.bits14:waitsOk spec_l1Less.T14.2 spec_l1Less.B14 = true:=by kernel_rfl
set_option maxHeartbeats 8000000 in
set_option maxRecDepth 100000 in
theorem spec_l1Less.calls (k:Nat):∀ (P0_0_:Nat → Prop) (A0_0:Option Addr) (c0_0:Nat) (l0_0:List Bool) (P0_1_:Nat → Prop) (A0_1:Option Addr) (c0_1:Nat) (l0_1:List Bool) (r1:List Bool) (r2:List Bool) (w:World) (hs0_0:Kd.V Kd.bool 4 w w.heap.size (fun k_=>P0_0_ k_) (.slice A0_0 l0_0.length c0_0) l0_0) (hs0_1:Kd.V Kd.bool 4 w w.heap.size (fun k_=>P0_1_ k_) (.slice A0_1 l0_1.length c0_1) l0_1) (h:spec_l1Less.f k l0_0 l0_1 = some (r1,r2)),
  Calls Try.prog 28 #[.agg #[.slice A0_0 l0_0.length c0_0,.slice A0_1 l0_1.length c0_1]] w fun e w'=>∃ v0_ v1_:Value,e = .returned (.agg #[v0_,v1_])∧Kd.V Kd.bool 4 w' w.heap.size (fun k_=>((P0_0_ k_ ∨ P0_1_ k_) ∨ w.heap.size≤k_)) v0_ r1∧Kd.V Kd.bool 4 w' w.heap.size (fun k_=>((P0_0_ k_ ∨ P0_1_ k_) ∨ w.heap.size≤k_)) v1_ r2∧Below w.heap.size w w':=by
 induction k using Nat.strongRecOn with
 | _ k ih =>
 intro P0_0_ A0_0 c0_0 l0_0 P0_1_ A0_1 c0_1 l0_1 r1 r2 w hs0_0 hs0_1 h
 cases k with
 | zero=>exact absurd h (by simp [spec_l1Less.f])
 | succ k =>
 simp only [spec_l1Less.f] at h
 have hu43:=Try.underlying43
 have HO0_0:=Aside0.mk (show Kd.V Kd.bool 4 w w.heap.size (fun k_=>((P0_0_ k_ ∨ P0_1_ k_) ∨ w.heap.size≤k_)) (.slice A0_0 l0_0.length c0_0) l0_0 from Kd.V_mono hs0_0 (fun k_ hk=>.inl (.inl hk)))
 have HO0_1:=Aside0.mk (show Kd.V Kd.bool 4 w w.heap.size (fun k_=>((P0_0_ k_ ∨ P0_1_ k_) ∨ w.heap.size≤k_)) (.slice A0_1 l0_1.length c0_1) l0_1 from Kd.V_mono hs0_1 (fun k_ hk=>.inl (.inr hk)))
 have HB:=Aside0.mk (Below.refl w.heap.size w)
 have H:(spec_l1Less.l0 k (l0_1.length:Int) 1 l0_0 l0_1) = some (r1,r2):=h
 clear h
 have H':=Aside0.mk H
 clear H
 go_enter Try.func28,Try.ntmps28
 go_wp2_with (first|((with_reducible refine gate_dst (N:=1) rfl ?_);refine box_event ?hg (N:=1) ?hd (cs:=#[.slice A0_0 l0_0.length c0_0,.slice A0_1 l0_1.length c0_1]) (t:=43) ?hr ?_;(case hd=>rfl);(case hg=>rfl);(case hr=>first|(go_simp;done)|(go_simp;rfl));intro gb206 hg w2 hbox hb;have n0_:=Aside0.mk (Kd.V_below (Kd.V_elderB (by (with_reducible repeat (first|apply Kd.V_alloc|apply Kd.V_drewN|apply Kd.V_drew));exact HO0_0.out) gb206 (Nat.le_of_eq hg.symm)) hb);have n1_:=Aside0.mk (Kd.V_below (Kd.V_elderB (by (with_reducible repeat (first|apply Kd.V_alloc|apply Kd.V_drewN|apply Kd.V_drew));exact HO0_1.out) gb206 (Nat.le_of_eq hg.symm)) hb);have n2_:=Aside0.mk (below_step (by repeat (first|(with_reducible first|exact HB.out|apply below_alloc|apply pw_below_drewN|apply below_drew1)|exact HB.out)) hb);have n3_:=Aside0.mk (hbox);have n4_:=Aside0.mk ((by rw [hg];exact (below_size (by repeat (first|(with_reducible first|exact HB.out|apply below_alloc|apply pw_below_drewN|apply below_drew1)|exact HB.out))):w.heap.size≤gb206));have n5_:=Aside0.mk ((by rw [hg];exact (below_size (by repeat (first|(with_reducible first|exact HB.out|apply below_alloc|apply pw_below_drewN|apply below_drew1)|exact HB.out))):w.heap.size≤gb206));clear HO0_0;clear HO0_1;clear HB;have HO0_0:=n0_;have HO0_1:=n1_;have HB:=n2_;have BK206:=n3_;have GW206:=n4_;have GE206:=n5_;clear n0_ n1_ n2_ n3_ n4_ n5_;clear hb hbox hg)|((with_reducible refine gate_dst (N:=2) rfl ?_);refine box_event ?hg (N:=2) ?hd (cs:=#[.slice none 0 0,.slice none 0 0]) (t:=43) ?hr ?_;(case hd=>rfl);(case hg=>rfl);(case hr=>first|(go_simp;done)|(go_simp;rfl));intro gb207 hg w3 hbox hb;have n0_:=Aside0.mk (Kd.V_below (Kd.V_elderB (by (with_reducible repeat (first|apply Kd.V_alloc|apply Kd.V_drewN|apply Kd.V_drew));exact HO0_0.out) gb207 (Nat.le_of_eq hg.symm)) hb);have n1_:=Aside0.mk (Kd.V_below (Kd.V_elderB (by (with_reducible repeat (first|apply Kd.V_alloc|apply Kd.V_drewN|apply Kd.V_drew));exact HO0_1.out) gb207 (Nat.le_of_eq hg.symm)) hb);have n2_:=Aside0.mk (blk_below (g:=gb206) (o:=.cells #[.slice A0_0 l0_0.length c0_0,.slice A0_1 l0_1.length c0_1] 43 (0,0)) (by (with_reducible repeat (first|refine blk_drewN ?_ _|refine blk_drew ?_|refine blk_alloc ?_ _));exact BK206.out) hb);have n3_:=Aside0.mk (below_step (by repeat (first|(with_reducible first|exact HB.out|apply below_alloc|apply pw_below_drewN|apply below_drew1|refine below_set ?_ GE206.out)|exact HB.out)) hb);have n4_:=Aside0.mk (hbox);have n5_:=Aside0.mk ((by rw [hg];exact (below_size (by repeat (first|(with_reducible first|exact HB.out|apply below_alloc|apply pw_below_drewN|apply below_drew1|refine below_set ?_ GE206.out)|exact HB.out))):w.heap.size≤gb207));have n6_:=Aside0.mk ((by rw [hg];exact (below_size (by repeat (first|(with_reducible first|exact HB.out|apply below_alloc|apply pw_below_drewN|apply below_drew1|refine below_set ?_ GE206.out)|exact HB.out))):w.heap.size≤gb207));have n7_:=Aside0.mk ((by rw [hg];exact Nat.ne_of_lt (blk_lt (g:=gb206) (o:=.cells #[.slice A0_0 l0_0.length c0_0,.slice A0_1 l0_1.length c0_1] 43 (0,0)) (by (with_reducible repeat (first|refine blk_drewN ?_ _|refine blk_drew ?_|refine blk_alloc ?_ _));exact BK206.out)):gb206 ≠ gb207));have n8_:=Aside0.mk ((by rw [hg];exact Nat.ne_of_gt (blk_lt (g:=gb206) (o:=.cells #[.slice A0_0 l0_0.length c0_0,.slice A0_1 l0_1.length c0_1] 43 (0,0)) (by (with_reducible repeat (first|refine blk_drewN ?_ _|refine blk_drew ?_|refine blk_alloc ?_ _));exact BK206.out)):gb207 ≠ gb206));clear HO0_0;clear HO0_1;clear BK206;clear HB;have HO0_0:=n0_;have HO0_1:=n1_;have BK206:=n2_;have HB:=n3_;have BK207:=n4_;have GW207:=n5_;have GE207:=n6_;have NB206_207:=n7_;have NB207_206:=n8_;clear n0_ n1_ n2_ n3_ n4_ n5_ n6_ n7_ n8_;clear hb hbox hg;have hnb4:=NB206_207.out;have hnc4:=NB207_206.out;have hcz5_0:w3.cell? ⟨gb206,0,none⟩ = some (.slice A0_0 l0_0.length c0_0):=(blk_cell BK206.out 0).trans rfl;have hcz5_1:w3.cell? ⟨gb206,1,none⟩ = some (.slice A0_1 l0_1.length c0_1):=(blk_cell BK206.out 1).trans rfl;have hfz5_0:=blk_frozen BK206.out 0;have hfz5_1:=blk_frozen BK206.out 1))
 go_loopg [4] k (fun kq v4 w'=>∃ (x4_1:Int),v4 = .int .i64 x4_1∧Aside0 (spec_l1Less.l0 kq (l0_1.length:Int) x4_1 l0_0 l0_1 = some (r1,r2))∧Aside0 (kq≤k)∧Aside0 (Kd.V Kd.bool 4 w' w.heap.size (fun k_=>((P0_0_ k_ ∨ P0_1_ k_) ∨ w.heap.size≤k_)∧k_ ≠ gb206∧k_ ≠ gb207) (.slice A0_0 l0_0.length c0_0) l0_0)∧Aside0 (Kd.V Kd.bool 4 w' w.heap.size (fun k_=>((P0_0_ k_ ∨ P0_1_ k_) ∨ w.heap.size≤k_)∧k_ ≠ gb206∧k_ ≠ gb207) (.slice A0_1 l0_1.length c0_1) l0_1)∧Aside0 (w'.heap[gb206]? = some (.cells #[(.slice A0_0 l0_0.length c0_0),(.slice A0_1 l0_1.length c0_1)] 43 (0,0)))∧Aside0 (w'.heap[gb207]? = some (.cells #[(.slice none 0 0),(.slice none 0 0)] 43 (0,0)))∧Aside0 (Below w.heap.size w w'))
 case atStart=>exact ⟨(1),(by first|rfl|(simp;done)|(simp [*];done)|(simp [Int.tmod_eq_emod_of_nonneg];done)),H',⟨Nat.le_refl _⟩,⟨by (with_reducible repeat (first|apply Kd.V_alloc|apply Kd.V_drewN|apply Kd.V_drew));exact Kd.V_mono HO0_0.out (fun _ hk=>⟨hk.1.1,⟨hk.1.2,hk.2⟩⟩)⟩,⟨by (with_reducible repeat (first|apply Kd.V_alloc|apply Kd.V_drewN|apply Kd.V_drew));exact Kd.V_mono HO0_1.out (fun _ hk=>⟨hk.1.1,⟨hk.1.2,hk.2⟩⟩)⟩,⟨by (with_reducible repeat (first|refine blk_drewN ?_ _|refine blk_drew ?_|refine blk_alloc ?_ _));exact BK206.out⟩,⟨by (with_reducible repeat (first|refine blk_drewN ?_ _|refine blk_drew ?_|refine blk_alloc ?_ _));exact BK207.out⟩,⟨by repeat (first|(with_reducible first|exact HB.out|apply below_alloc|apply pw_below_drewN|apply below_drew1|refine below_set ?_ GE206.out|refine below_set ?_ GE207.out)|exact HB.out)⟩⟩
 case round =>
  clear H'
  try clear c2
  try clear p2
  try clear c4
  try clear hcz5_0
  try clear hcz5_1
  try clear hfz5_0
  try clear hfz5_1
  obtain ⟨x4_1,rfl,HA,HK1,HO_207000,HO_207001,BK206,BK207,HB⟩:=hrel
  cases gk with
  | zero=>exact absurd HA.out (by simp [spec_l1Less.l0])
  | succ k1 =>
   have H:=HA.out
   clear HA
   simp only [spec_l1Less.l0] at H
   by_cases c6:x4_1 < (l0_1.length:Int)
   ·rw [if_pos c6] at H
    have c6b0:decide (x4_1 < (l0_1.length:Int)) = true:=decide_eq_true c6
    clear c6
    by_cases c7:x4_1 = 0
    ·rw [if_pos c7] at H
     exact absurd H (by simp)
    ·rw [if_neg c7] at H
     have c7b0:(x4_1 == 0) = false:=beq_eq_false_iff_ne.mpr c7
     have c7b1:(x4_1 != 0) = true:=bne_iff_ne.mpr c7
     have H':=Aside0.mk H
     clear H
     go_wp2
     go_loopg [5,6] k1 (fun kq v5 v6 w'=>∃ (x5_2:Bool) (x6_2:Int),v5 = .bool x5_2∧v6 = .int .i64 x6_2∧Aside0 (spec_l1Less.l1 kq (l0_1.length:Int) x4_1 x5_2 x6_2 l0_0 l0_1 = some (r1,r2))∧Aside0 (kq≤k1)∧Aside0 (Kd.V Kd.bool 4 w' w.heap.size (fun k_=>((P0_0_ k_ ∨ P0_1_ k_) ∨ w.heap.size≤k_)∧k_ ≠ gb206∧k_ ≠ gb207) (.slice A0_0 l0_0.length c0_0) l0_0)∧Aside0 (Kd.V Kd.bool 4 w' w.heap.size (fun k_=>((P0_0_ k_ ∨ P0_1_ k_) ∨ w.heap.size≤k_)∧k_ ≠ gb206∧k_ ≠ gb207) (.slice A0_1 l0_1.length c0_1) l0_1)∧Aside0 (w'.heap[gb206]? = some (.cells #[(.slice A0_0 l0_0.length c0_0),(.slice A0_1 l0_1.length c0_1)] 43 (0,0)))∧Aside0 (w'.heap[gb207]? = some (.cells #[(.slice none 0 0),(.slice none 0 0)] 43 (0,0)))∧Aside0 (Below w.heap.size w w'))
     case atStart=>exact ⟨(((Int.tmod (l0_1.length:Int) x4_1) == 0)),(x4_1),(by first|rfl|(simp;done)|(simp [*];done)|(simp [Int.tmod_eq_emod_of_nonneg];done)),(by first|rfl|(simp;done)|(simp [*];done)|(simp [Int.tmod_eq_emod_of_nonneg];done)),H',⟨Nat.le_refl _⟩,⟨by (with_reducible repeat (first|apply Kd.V_alloc|apply Kd.V_drewN|apply Kd.V_drew));exact HO_207000.out⟩,⟨by (with_reducible repeat (first|apply Kd.V_alloc|apply Kd.V_drewN|apply Kd.V_drew));exact HO_207001.out⟩,⟨by (with_reducible repeat (first|refine blk_drewN ?_ _|refine blk_drew ?_|refine blk_alloc ?_ _));exact BK206.out⟩,⟨by (with_reducible repeat (first|refine blk_drewN ?_ _|refine blk_drew ?_|refine blk_alloc ?_ _));exact BK207.out⟩,⟨by repeat (first|(with_reducible first|exact HB.out|apply below_alloc|apply pw_below_drewN|apply below_drew1|refine below_set ?_ GE206.out|refine below_set ?_ GE207.out)|exact HB.out)⟩⟩
     case round =>
      clear H'
      try clear c2
      try clear p2
      try clear c4
      try clear c6
      try clear c6b0
      try clear c7
      try clear c7b0
      try clear c7b1
      try clear hcz5_0
      try clear hcz5_1
      try clear hfz5_0
      try clear hfz5_1
      try clear p2
      obtain ⟨x5_2,x6_2,rfl,rfl,HA,HK2,HO_207000,HO_207001,BK206,BK207,HB⟩:=hrel
      cases gk with
      | zero=>exact absurd HA.out (by simp [spec_l1Less.l1])
      | succ k2 =>
       have H:=HA.out
       clear HA
       simp only [spec_l1Less.l1] at H
       by_cases c8:x6_2 < (l0_1.length:Int)
       ·rw [if_pos c8] at H
        have c8b0:decide (x6_2 < (l0_1.length:Int)) = true:=decide_eq_true c8
        clear c8
        by_cases c9:x5_2 = true
        ·subst c9
         have H1:(if 0≤x6_2 then (if x6_2 < (l0_1.length:Int) then (if 0≤(wrap64 (x6_2 - x4_1)) then (if (wrap64 (x6_2 - x4_1)) < (l0_1.length:Int) then (spec_l1Less.l1 k2 (l0_1.length:Int) x4_1 ((rdOf false l0_1 x6_2) == (rdOf false l0_1 (wrap64 (x6_2 - x4_1)))) (wrap64 (x6_2 + 1)) l0_0 l0_1) else (none)) else (none)) else (none)) else (none)) = some (r1,r2):=by rw [if_pos rfl] at H;exact H
         clear H
         have H:=H1
         clear H1
         by_cases c10:0≤x6_2
         ·rw [if_pos c10] at H
          have c10b0:decide (0≤x6_2) = true:=decide_eq_true c10
          clear c10
          by_cases c11:x6_2 < (l0_1.length:Int)
          ·rw [if_pos c11] at H
           have c11b0:decide (x6_2 < (l0_1.length:Int)) = true:=decide_eq_true c11
           clear c11
           obtain ⟨ji12,hji12⟩:∃ j_:Int,(wrap64 (x6_2 - x4_1)) = j_:=⟨_,rfl⟩
           replace H:(if 0≤(ji12) then (if (ji12) < (l0_1.length:Int) then (spec_l1Less.l1 k2 (l0_1.length:Int) x4_1 ((rdOf false l0_1 x6_2) == (rdOf false l0_1 (ji12))) (wrap64 (x6_2 + 1)) l0_0 l0_1) else (none)) else (none)) = some (r1,r2):=by first|(rw [hji12] at H;exact H)|(simp only [hji12] at H ⊢;exact H)
           have hji12w:(IntKind.i64.wrap (x6_2 - x4_1)) = ji12:=(i64_w _).trans hji12
           by_cases c13:0≤(ji12)
           ·rw [if_pos c13] at H
            have c13b0:decide (0≤(ji12)) = true:=decide_eq_true c13
            clear c13
            by_cases c14:(ji12) < (l0_1.length:Int)
            ·rw [if_pos c14] at H
             have c14b0:decide ((ji12) < (l0_1.length:Int)) = true:=decide_eq_true c14
             clear c14
             have H':=Aside0.mk H
             clear H
             try go_wp2
             have n0_:=Aside0.mk (Kd.V_drew HO_207000.out)
             have n1_:=Aside0.mk (Kd.V_drew HO_207001.out)
             have n2_:=Aside0.mk (blk_drew BK206.out)
             have n3_:=Aside0.mk (blk_drew BK207.out)
             have n4_:=Aside0.mk (below_drew1 HB.out)
             clear HO_207000
             clear HO_207001
             clear BK206
             clear BK207
             clear HB
             have HO_207000:=n0_
             have HO_207001:=n1_
             have BK206:=n2_
             have BK207:=n3_
             have HB:=n4_
             clear n0_ n1_ n2_ n3_ n4_
             have p233:0≤(x6_2:Int):=of_decide_eq_true (by first|(with_reducible assumption)|assumption)
             have q233:x6_2 < (l0_1.length:Int):=of_decide_eq_true (by first|(with_reducible assumption)|assumption)
             obtain ⟨ad233,e233,hx233_0⟩:=Kd.at_bool (Kd.V_reads' HO_207001.out).2.2 x6_2 p233 q233
             cases e233
             replace p233:=eq_true p233
             replace q233:=eq_true q233
             have p234:0≤((ji12):Int):=of_decide_eq_true (by first|(with_reducible assumption)|assumption)
             have q234:(ji12) < (l0_1.length:Int):=of_decide_eq_true (by first|(with_reducible assumption)|assumption)
             obtain ⟨ad234,e234,hx234_0⟩:=Kd.at_bool (Kd.V_reads' HO_207001.out).2.2 (ji12) p234 q234
             obtain rfl:ad233 = ad234:=(by injection e234)
             replace p234:=eq_true p234
             replace q234:=eq_true q234
             refine start_ (n:=14) (S:=fun w'=>w'.cell? ⟨gb206,0,none⟩ = some (.slice A0_0 l0_0.length c0_0)∧w'.cell? ⟨gb206,1,none⟩ = some (.slice (some ad233) l0_1.length c0_1)∧w'.cell? (ad233.add (x6_2).toNat) = some (.bool (rdOf false l0_1 x6_2))∧w'.cell? (ad233.add ((ji12)).toNat) = some (.bool (rdOf false l0_1 (ji12)))) (ds:=[]) #[false,false,false,false,false,false,false,false,false,false,false,false,false,false] (by kernel_rfl) rfl rfl ⟨(blk_cell BK206.out 0).trans rfl,(blk_cell BK206.out 1).trans rfl,hx233_0,hx234_0⟩ (fun hHeld=>?_);refine with_tabW spec_l1Less.tab9 spec_l1Less.bits9 (fun HT_ HW_=>?_)
             generalize wr.drew = w15 at HO_207000 HO_207001 BK206 BK207 HB hx233_0 hx234_0 hHeld ⊢
             refine pure_ (i:=0) (N:=some 30) (v:=?_) (a':=?_) #[true,false,false,false,false,false,false,false,false,false,false,false,false,false] rfl rfl (any_of HT_.out (by kernel_rfl)) (fun _ _ _ h=>h) (Or.inl ⟨by rfl,?_⟩) ?_ ?_
             rotate_left
             ·intro w'
              go_simp
              with_reducible rfl
             rotate_left
             ·simp only [Act.put,List.setIfInBounds_toArray,List.set_cons_zero,List.set_cons_succ,i64_w,i32_w]
              rfl
             refine pure_ (i:=2) (N:=some 32) (v:=?_) (a':=?_) #[true,false,true,false,false,false,false,false,false,false,false,false,false,false] rfl rfl (any_of HT_.out (by kernel_rfl)) (fun _ _ _ h=>h) (Or.inl ⟨by rfl,?_⟩) ?_ ?_
             rotate_left
             ·intro w'
              go_simp
              with_reducible rfl
             rotate_left
             ·simp only [Act.put,List.setIfInBounds_toArray,List.set_cons_zero,List.set_cons_succ,i64_w,i32_w]
              rfl
             refine pure_ (i:=5) (N:=some 35) (v:=?_) (a':=?_) #[true,false,true,false,false,true,false,false,false,false,false,false,false,false] rfl rfl (any_of HT_.out (by kernel_rfl)) (fun _ _ _ h=>h) (Or.inl ⟨by rfl,?_⟩) ?_ ?_
             rotate_left
             ·intro w'
              go_simp
              with_reducible rfl
             rotate_left
             ·simp only [Act.put,List.setIfInBounds_toArray,List.set_cons_zero,List.set_cons_succ,i64_w,i32_w]
              rfl
             refine pure_ (i:=7) (N:=some 37) (v:=?_) (a':=?_) #[true,false,true,false,false,true,false,true,false,false,false,false,false,false] rfl rfl (any_of HT_.out (by kernel_rfl)) (fun _ _ _ h=>h) (Or.inl ⟨by rfl,?_⟩) ?_ ?_
             rotate_left
             ·intro w'
              go_simp
              with_reducible rfl
             rotate_left
             ·simp only [Act.put,List.setIfInBounds_toArray,List.set_cons_zero,List.set_cons_succ,i64_w,i32_w]
              rfl
             refine pure_ (i:=8) (N:=some 38) (v:=?_) (a':=?_) #[true,false,true,false,false,true,false,true,true,false,false,false,false,false] rfl rfl (any_of HT_.out (by kernel_rfl)) (fun _ _ _ h=>h) (Or.inl ⟨by rfl,?_⟩) ?_ ?_
             rotate_left
             ·intro w'
              go_simp
              with_reducible rfl
             rotate_left
             ·simp only [Act.put,List.setIfInBounds_toArray,List.set_cons_zero,List.set_cons_succ,i64_w,i32_w]
              rfl
             refine pure_ (i:=9) (N:=some 39) (v:=?_) (a':=?_) #[true,false,true,false,false,true,false,true,true,true,false,false,false,false] rfl rfl (any_of HT_.out (by kernel_rfl)) (fun _ _ _ h=>h) (Or.inl ⟨by rfl,?_⟩) ?_ ?_
             rotate_left
             ·intro w'
              go_simp
              with_reducible rfl
             rotate_left
             ·simp only [Act.put,List.setIfInBounds_toArray,List.set_cons_zero,List.set_cons_succ,i64_w,i32_w]
              rfl
             refine take_ (i:=1) (N:=some 31) (v:=?_) (a':=?_) #[true,true,true,false,false,true,false,true,true,true,false,false,false,false] rfl rfl (take_ofW HT_.out HW_.out (by kernel_rfl)) (fun _ _ _ h=>h) (Or.inl ⟨by rfl,?_⟩) hHeld ?_ ?_
             rotate_left
             ·rintro w' ⟨s0,s1,s2,s3⟩
              go_simp
              with_reducible rfl
             rotate_left
             ·simp only [Act.put,List.setIfInBounds_toArray,List.set_cons_zero,List.set_cons_succ,i64_w,i32_w]
              rfl
             refine pure_ (i:=3) (N:=some 33) (v:=?_) (a':=?_) #[true,true,true,true,false,true,false,true,true,true,false,false,false,false] rfl rfl (any_of HT_.out (by kernel_rfl)) (fun _ _ _ h=>h) (Or.inl ⟨by rfl,?_⟩) ?_ ?_
             rotate_left
             ·intro w'
              go_simp
              with_reducible rfl
             rotate_left
             ·simp only [Act.put,List.setIfInBounds_toArray,List.set_cons_zero,List.set_cons_succ,i64_w,i32_w]
              rfl
             refine take_ (i:=4) (N:=some 34) (v:=?_) (a':=?_) #[true,true,true,true,true,true,false,true,true,true,false,false,false,false] rfl rfl (take_ofW HT_.out HW_.out (by kernel_rfl)) (fun _ _ _ h=>h) (Or.inl ⟨by rfl,?_⟩) hHeld ?_ ?_
             rotate_left
             ·rintro w' ⟨s0,s1,s2,s3⟩
              go_simp
              with_reducible rfl
             rotate_left
             ·simp only [Act.put,List.setIfInBounds_toArray,List.set_cons_zero,List.set_cons_succ,i64_w,i32_w]
              rfl
             refine take_ (i:=6) (N:=some 36) (v:=?_) (a':=?_) #[true,true,true,true,true,true,true,true,true,true,false,false,false,false] rfl rfl (take_ofW HT_.out HW_.out (by kernel_rfl)) (fun _ _ _ h=>h) (Or.inl ⟨by rfl,?_⟩) hHeld ?_ ?_
             rotate_left
             ·rintro w' ⟨s0,s1,s2,s3⟩
              go_simp
              with_reducible rfl
             rotate_left
             ·simp only [Act.put,List.setIfInBounds_toArray,List.set_cons_zero,List.set_cons_succ,i64_w,i32_w]
              rfl
             refine pure_ (i:=10) (N:=some 40) (v:=?_) (a':=?_) #[true,true,true,true,true,true,true,true,true,true,true,false,false,false] rfl rfl (any_of HT_.out (by kernel_rfl)) (fun _ _ _ h=>h) (Or.inl ⟨by rfl,?_⟩) ?_ ?_
             rotate_left
             ·intro w'
              go_simp
              with_reducible rfl
             rotate_left
             ·simp only [Act.put,List.setIfInBounds_toArray,List.set_cons_zero,List.set_cons_succ,i64_w,i32_w]
              rfl
             refine take_ (i:=11) (N:=some 41) (v:=?_) (a':=?_) #[true,true,true,true,true,true,true,true,true,true,true,true,false,false] rfl rfl (take_ofW HT_.out HW_.out (by kernel_rfl)) (fun _ _ _ h=>h) (Or.inl ⟨by rfl,?_⟩) hHeld ?_ ?_
             rotate_left
             ·rintro w' ⟨s0,s1,s2,s3⟩
              go_simp
              with_reducible rfl
             rotate_left
             ·simp only [Act.put,List.setIfInBounds_toArray,List.set_cons_zero,List.set_cons_succ,i64_w,i32_w]
              rfl
             refine pure_ (i:=12) (N:=some 42) (v:=?_) (a':=?_) #[true,true,true,true,true,true,true,true,true,true,true,true,true,false] rfl rfl (any_of HT_.out (by kernel_rfl)) (fun _ _ _ h=>h) (Or.inl ⟨by rfl,?_⟩) ?_ ?_
             rotate_left
             ·intro w'
              go_simp
              with_reducible rfl
             rotate_left
             ·simp only [Act.put,List.setIfInBounds_toArray,List.set_cons_zero,List.set_cons_succ,i64_w,i32_w]
              rfl
             refine pure_ (i:=13) (N:=some 5) (v:=?_) (a':=?_) #[true,true,true,true,true,true,true,true,true,true,true,true,true,true] rfl rfl (any_of HT_.out (by kernel_rfl)) (fun _ _ _ h=>h) (Or.inl ⟨by rfl,?_⟩) ?_ ?_
             rotate_left
             ·intro w'
              go_simp
              with_reducible rfl
             rotate_left
             ·simp only [Act.put,List.setIfInBounds_toArray,List.set_cons_zero,List.set_cons_succ,i64_w,i32_w]
              rfl
             refine done_ (done_of HT_.out (by kernel_rfl)) ?_
             try go_wp2
             go_roundg k2
             case measure=>have:=HK1.out;have:=HK2.out;omega
             case rel=>exact ⟨(((rdOf false l0_1 x6_2) == (rdOf false l0_1 (ji12)))),(wrap64 (x6_2 + 1)),(by first|rfl|(simp;done)|(simp only [← hji12] <;> (first|rfl|simp))|(simp [*];done)),(by first|rfl|(simp;done)|(simp [*];done)|(simp [Int.tmod_eq_emod_of_nonneg];done)),H',⟨by have:=HK1.out;have:=HK2.out;omega⟩,⟨by (with_reducible repeat (first|apply Kd.V_alloc|apply Kd.V_drewN|apply Kd.V_drew));exact HO_207000.out⟩,⟨by (with_reducible repeat (first|apply Kd.V_alloc|apply Kd.V_drewN|apply Kd.V_drew));exact HO_207001.out⟩,⟨by (with_reducible repeat (first|refine blk_drewN ?_ _|refine blk_drew ?_|refine blk_alloc ?_ _));exact BK206.out⟩,⟨by (with_reducible repeat (first|refine blk_drewN ?_ _|refine blk_drew ?_|refine blk_alloc ?_ _));exact BK207.out⟩,⟨by repeat (first|(with_reducible first|exact HB.out|apply below_alloc|apply pw_below_drewN|apply below_drew1|refine below_set ?_ GE206.out|refine below_set ?_ GE207.out)|exact HB.out)⟩⟩
            ·rw [if_neg c14] at H
             exact absurd H (by simp)
           ·rw [if_neg c13] at H
            exact absurd H (by simp)
          ·rw [if_neg c11] at H
           exact absurd H (by simp)
         ·rw [if_neg c10] at H
          exact absurd H (by simp)
        ·replace c9:=Bool.eq_false_iff.mpr c9
         subst c9
         have H1:(spec_l1Less.l0 k2 (l0_1.length:Int) (wrap64 (x4_1 + 1)) l0_0 l0_1) = some (r1,r2):=by rw [if_neg (show ¬ (false = true) by decide)] at H;exact H
         clear H
         have H:=H1
         clear H1
         have H':=Aside0.mk H
         clear H
         go_wp2
         go_roundg k2
         case measure=>have:=HK1.out;have:=HK2.out;omega
         case rel=>exact ⟨(wrap64 (x4_1 + 1)),(by first|rfl|(simp;done)|(simp [*];done)|(simp [Int.tmod_eq_emod_of_nonneg];done)),H',⟨by have:=HK1.out;have:=HK2.out;omega⟩,⟨by (with_reducible repeat (first|apply Kd.V_alloc|apply Kd.V_drewN|apply Kd.V_drew));exact HO_207000.out⟩,⟨by (with_reducible repeat (first|apply Kd.V_alloc|apply Kd.V_drewN|apply Kd.V_drew));exact HO_207001.out⟩,⟨by (with_reducible repeat (first|refine blk_drewN ?_ _|refine blk_drew ?_|refine blk_alloc ?_ _));exact BK206.out⟩,⟨by (with_reducible repeat (first|refine blk_drewN ?_ _|refine blk_drew ?_|refine blk_alloc ?_ _));exact BK207.out⟩,⟨by repeat (first|(with_reducible first|exact HB.out|apply below_alloc|apply pw_below_drewN|apply below_drew1|refine below_set ?_ GE206.out|refine below_set ?_ GE207.out)|exact HB.out)⟩⟩
       ·rw [if_neg c8] at H
        have c8b0:decide (x6_2 < (l0_1.length:Int)) = false:=decide_eq_false c8
        clear c8
        by_cases c16:x5_2 = true
        ·subst c16
         have H1:(if 0≤x4_1 then (if x4_1≤(l0_1.length:Int) then ((spec_l1Less.f k2 l0_0 (l0_1.take (x4_1:Int).toNat)).bind fun bt240=>(some (bt240.1,bt240.2))) else (none)) else (none)) = some (r1,r2):=by rw [if_pos rfl] at H;exact H
         clear H
         have H:=H1
         clear H1
         by_cases c17:0≤x4_1
         ·rw [if_pos c17] at H
          have c17b0:=eq_true c17
          have c17b1:decide (0≤x4_1) = true:=decide_eq_true c17
          clear c17
          by_cases c18:x4_1≤(l0_1.length:Int)
          ·rw [if_pos c18] at H
           have c18b0:=eq_true c18
           have c18b1:decide (x4_1≤(l0_1.length:Int)) = true:=decide_eq_true c18
           clear c18
           obtain ⟨y235,hy235⟩:∃ y_:List Bool,y_ = (l0_1.take (x4_1:Int).toNat):=⟨_,rfl⟩
           replace H:((spec_l1Less.f k2 l0_0 y235).bind fun bt240=>(some (bt240.1,bt240.2))) = some (r1,r2):=by first|(rw [hy235];with_reducible exact H)|(have H2_:=(Option.bind_some _ _).symm.trans H;rw [hy235];with_reducible exact H2_)|(have H2_:=(Option.bind_some _ _).symm.trans H;with_reducible exact H2_)|with_reducible exact H|(rw [hy235];exact H)|exact H
           have Ny235:=Aside0.mk hy235
           clear hy235
           replace H:=Option.bind_eq_some_iff.mp H
           obtain ⟨⟨t240,t243⟩,A190,H⟩:=H
           replace H:(some (t240,t243)) = some (r1,r2):=H
           have A19:=Aside0.mk A190
           clear A190
           simp only [Option.some.injEq,Prod.mk.injEq] at H
           obtain ⟨rfl,rfl⟩:=H
           try go_wp2
           have n0_:=Aside0.mk (Kd.V_drew HO_207000.out)
           have n1_:=Aside0.mk (Kd.V_drew HO_207001.out)
           have n2_:=Aside0.mk (blk_drew BK206.out)
           have n3_:=Aside0.mk (blk_drew BK207.out)
           have n4_:=Aside0.mk (below_drew1 HB.out)
           clear HO_207000
           clear HO_207001
           clear BK206
           clear BK207
           clear HB
           have HO_207000:=n0_
           have HO_207001:=n1_
           have BK206:=n2_
           have BK207:=n3_
           have HB:=n4_
           clear n0_ n1_ n2_ n3_ n4_
           have q21:(x4_1:Int)≤((l0_1.length:Int):Int):=of_decide_eq_true (by first|(with_reducible assumption)|assumption)
           obtain ⟨i021,hi021,_,hsz21,_⟩:=info_parts info4
           have hroom21:l0_1.length≤c0_1:=(Kd.V_reads' HO_207001.out).2.1
           have hC21:Kd.F Kd.bool _ _ A0_1 l0_1.length l0_1:=(Kd.V_at (base:=w.heap.size) HO_207001.out).2.2
           have hcut21:=cut_to (P:=Try.prog) 40 4 .i64 Try.underlying40 hi021 A0_1 l0_1.length c0_1 x4_1 (of_decide_eq_true (by first|(with_reducible assumption)|assumption)) q21 hroom21
           have hr21:=Kd.F_take (m:=(x4_1:Int).toNat) hC21 (by omega)
           have hy21:y235.length = (x4_1:Int).toNat:=(by rw [Ny235.out,List.length_take];omega)
           rw [← Ny235.out] at hr21
           rw [← hy21] at hcut21
           have HO239:=Aside0.mk (show Kd.V Kd.bool 4 _ w.heap.size _ (.slice A0_1 y235.length c0_1) y235 from Kd.V_mk (by omega) hr21)
           have HC239:=Aside0.mk (show y235.length≤c0_1 from by omega)
           clear hr21 hC21 hroom21 hi021 hsz21
           have KY21:=Aside0.mk hy21
           clear hy21
           replace q21:=eq_true q21
           refine start_ (n:=9) (S:=fun w'=>w'.cell? ⟨gb206,0,none⟩ = some (.slice A0_0 l0_0.length c0_0)∧w'.cell? ⟨gb206,1,none⟩ = some (.slice A0_1 l0_1.length c0_1)) (ds:=[]) #[false,false,false,false,false,false,false,false,false] (by kernel_rfl) rfl rfl ⟨(blk_cell BK206.out 0).trans rfl,(blk_cell BK206.out 1).trans rfl⟩ (fun hHeld=>?_);refine with_tabW spec_l1Less.tab11 spec_l1Less.bits11 (fun HT_ HW_=>?_)
           generalize wr.drew = w20 at HO_207000 HO_207001 BK206 BK207 HB HO239 hHeld ⊢
           refine pure_ (i:=0) (N:=some 44) (v:=?_) (a':=?_) #[true,false,false,false,false,false,false,false,false] rfl rfl (any_of HT_.out (by kernel_rfl)) (fun _ _ _ h=>h) (Or.inl ⟨by rfl,?_⟩) ?_ ?_
           rotate_left
           ·intro w'
            go_simp
            with_reducible rfl
           rotate_left
           ·simp only [Act.put,List.setIfInBounds_toArray,List.set_cons_zero,List.set_cons_succ,i64_w,i32_w]
            rfl
           refine pure_ (i:=2) (N:=some 46) (v:=?_) (a':=?_) #[true,false,true,false,false,false,false,false,false] rfl rfl (any_of HT_.out (by kernel_rfl)) (fun _ _ _ h=>h) (Or.inl ⟨by rfl,?_⟩) ?_ ?_
           rotate_left
           ·intro w'
            go_simp
            with_reducible rfl
           rotate_left
           ·simp only [Act.put,List.setIfInBounds_toArray,List.set_cons_zero,List.set_cons_succ,i64_w,i32_w]
            rfl
           refine pure_ (i:=4) (N:=some 48) (v:=?_) (a':=?_) #[true,false,true,false,true,false,false,false,false] rfl rfl (any_of HT_.out (by kernel_rfl)) (fun _ _ _ h=>h) (Or.inl ⟨by rfl,?_⟩) ?_ ?_
           rotate_left
           ·intro w'
            go_simp
            with_reducible rfl
           rotate_left
           ·simp only [Act.put,List.setIfInBounds_toArray,List.set_cons_zero,List.set_cons_succ,i64_w,i32_w]
            rfl
           refine take_ (i:=1) (N:=some 45) (v:=?_) (a':=?_) #[true,true,true,false,true,false,false,false,false] rfl rfl (take_ofW HT_.out HW_.out (by kernel_rfl)) (fun _ _ _ h=>h) (Or.inl ⟨by rfl,?_⟩) hHeld ?_ ?_
           rotate_left
           ·rintro w' ⟨s0,s1⟩
            go_simp
            with_reducible rfl
           rotate_left
           ·simp only [Act.put,List.setIfInBounds_toArray,List.set_cons_zero,List.set_cons_succ,i64_w,i32_w]
            rfl
           refine take_ (i:=3) (N:=some 47) (v:=?_) (a':=?_) #[true,true,true,true,true,false,false,false,false] rfl rfl (take_ofW HT_.out HW_.out (by kernel_rfl)) (fun _ _ _ h=>h) (Or.inl ⟨by rfl,?_⟩) hHeld ?_ ?_
           rotate_left
           ·rintro w' ⟨s0,s1⟩
            go_simp
            with_reducible rfl
           rotate_left
           ·simp only [Act.put,List.setIfInBounds_toArray,List.set_cons_zero,List.set_cons_succ,i64_w,i32_w]
            rfl
           refine pure_ (i:=5) (N:=some 49) (v:=?_) (a':=?_) #[true,true,true,true,true,true,false,false,false] rfl rfl (any_of HT_.out (by kernel_rfl)) (fun _ _ _ h=>h) (Or.inl ⟨by rfl,?_⟩) ?_ ?_
           rotate_left
           ·intro w'
            go_simp
            with_reducible rfl
           rotate_left
           ·simp only [Act.put,List.setIfInBounds_toArray,List.set_cons_zero,List.set_cons_succ,i64_w,i32_w]
            rfl
           refine pure_ (i:=6) (N:=some 50) (v:=?_) (a':=?_) #[true,true,true,true,true,true,true,false,false] rfl rfl (any_of HT_.out (by kernel_rfl)) (fun _ _ _ h=>h) (Or.inl ⟨by rfl,?_⟩) ?_ ?_
           rotate_left
           ·intro w'
            go_simp
            with_reducible rfl
           rotate_left
           ·simp only [Act.put,List.setIfInBounds_toArray,List.set_cons_zero,List.set_cons_succ,i64_w,i32_w]
            rfl
           refine one_ (i:=7) (N:=some 51) #[true,true,true,true,true,true,true,true,false] rfl rfl (one_of HT_.out (by kernel_rfl)) (by decide) (fun K hK=>?_)
           refine goes_ Try.func28 (by kernel_rfl) rfl #[.agg #[.slice A0_0 l0_0.length c0_0,.slice A0_1 y235.length c0_1]] (by rfl) rfl rfl (by (try simp only [List.map_toArray,List.map_cons,List.map_nil]);first|done|rfl|(simp only [List.length_drop,List.length_take];rfl)) ?_
           with_reducible refine (ih k2 (by have:=HK1.out;have:=HK2.out;omega) (fun k_=>(((P0_0_ k_ ∨ P0_1_ k_) ∨ w.heap.size≤k_)∧(k_ ≠ gb206∧k_ ≠ gb207))) _ _ l0_0 (fun k_=>(((P0_0_ k_ ∨ P0_1_ k_) ∨ w.heap.size≤k_)∧(k_ ≠ gb206∧k_ ≠ gb207))) _ _ y235 t240 t243 _ ?side1 ?side2 A19.out).mono ?_
           (case side1=>exact HO_207000.out)
           (case side2=>exact HO239.out)
           rintro e w22 ⟨v241,v244,rfl,ho0,ho1,hb⟩
           refine ⟨_,rfl,?_⟩
           have n0_:=Aside0.mk (Kd.V_below (by (with_reducible repeat (first|apply Kd.V_alloc|apply Kd.V_drewN|apply Kd.V_drew));exact HO_207000.out) hb)
           have n1_:=Aside0.mk (Kd.V_below (by (with_reducible repeat (first|apply Kd.V_alloc|apply Kd.V_drewN|apply Kd.V_drew));exact HO_207001.out) hb)
           have n2_:=Aside0.mk (Kd.V_below (by (with_reducible repeat (first|apply Kd.V_alloc|apply Kd.V_drewN|apply Kd.V_drew));exact HO239.out) hb)
           have n3_:=Aside0.mk (Kd.V_lower (Kd.V_mono (ok':=fun k_=>((P0_0_ k_ ∨ P0_1_ k_) ∨ w.heap.size≤k_)∧k_ ≠ gb206∧k_ ≠ gb207) ho0 (fun k_ hk_=>⟨Or.elim hk_ (fun hs_=>Or.elim hs_ (fun hs_=>hs_.1) (fun hs_=>hs_.1)) (fun hn_=>(.inr (Nat.le_trans (below_size (by repeat (first|(with_reducible first|exact HB.out|apply below_alloc|apply pw_below_drewN|apply below_drew1|refine below_set ?_ GE206.out|refine below_set ?_ GE207.out)|exact HB.out))) hn_))),Or.elim hk_ (fun hs_=>Or.elim hs_ (fun hs_=>hs_.2.1) (fun hs_=>hs_.2.1)) (fun hn_=>(Kd.freshB (g:=gb206) (o:=.cells #[.slice A0_0 l0_0.length c0_0,.slice A0_1 l0_1.length c0_1] 43 (0,0)) (by (with_reducible repeat (first|refine blk_drewN ?_ _|refine blk_drew ?_|refine blk_alloc ?_ _));exact BK206.out) k_ hn_)),Or.elim hk_ (fun hs_=>Or.elim hs_ (fun hs_=>hs_.2.2) (fun hs_=>hs_.2.2)) (fun hn_=>(Kd.freshB (g:=gb207) (o:=.cells #[.slice none 0 0,.slice none 0 0] 43 (0,0)) (by (with_reducible repeat (first|refine blk_drewN ?_ _|refine blk_drew ?_|refine blk_alloc ?_ _));exact BK207.out) k_ hn_))⟩)) (below_size (by repeat (first|(with_reducible first|exact HB.out|apply below_alloc|apply pw_below_drewN|apply below_drew1|refine below_set ?_ GE206.out|refine below_set ?_ GE207.out)|exact HB.out))))
           have n4_:=Aside0.mk (Kd.V_lower (Kd.V_mono (ok':=fun k_=>((P0_0_ k_ ∨ P0_1_ k_) ∨ w.heap.size≤k_)∧k_ ≠ gb206∧k_ ≠ gb207) ho1 (fun k_ hk_=>⟨Or.elim hk_ (fun hs_=>Or.elim hs_ (fun hs_=>hs_.1) (fun hs_=>hs_.1)) (fun hn_=>(.inr (Nat.le_trans (below_size (by repeat (first|(with_reducible first|exact HB.out|apply below_alloc|apply pw_below_drewN|apply below_drew1|refine below_set ?_ GE206.out|refine below_set ?_ GE207.out)|exact HB.out))) hn_))),Or.elim hk_ (fun hs_=>Or.elim hs_ (fun hs_=>hs_.2.1) (fun hs_=>hs_.2.1)) (fun hn_=>(Kd.freshB (g:=gb206) (o:=.cells #[.slice A0_0 l0_0.length c0_0,.slice A0_1 l0_1.length c0_1] 43 (0,0)) (by (with_reducible repeat (first|refine blk_drewN ?_ _|refine blk_drew ?_|refine blk_alloc ?_ _));exact BK206.out) k_ hn_)),Or.elim hk_ (fun hs_=>Or.elim hs_ (fun hs_=>hs_.2.2) (fun hs_=>hs_.2.2)) (fun hn_=>(Kd.freshB (g:=gb207) (o:=.cells #[.slice none 0 0,.slice none 0 0] 43 (0,0)) (by (with_reducible repeat (first|refine blk_drewN ?_ _|refine blk_drew ?_|refine blk_alloc ?_ _));exact BK207.out) k_ hn_))⟩)) (below_size (by repeat (first|(with_reducible first|exact HB.out|apply below_alloc|apply pw_below_drewN|apply below_drew1|refine below_set ?_ GE206.out|refine below_set ?_ GE207.out)|exact HB.out))))
           have n5_:=Aside0.mk (blk_below (g:=gb206) (o:=.cells #[.slice A0_0 l0_0.length c0_0,.slice A0_1 l0_1.length c0_1] 43 (0,0)) (by (with_reducible repeat (first|refine blk_drewN ?_ _|refine blk_drew ?_|refine blk_alloc ?_ _));exact BK206.out) hb)
           have n6_:=Aside0.mk (blk_below (g:=gb207) (o:=.cells #[.slice none 0 0,.slice none 0 0] 43 (0,0)) (by (with_reducible repeat (first|refine blk_drewN ?_ _|refine blk_drew ?_|refine blk_alloc ?_ _));exact BK207.out) hb)
           have n7_:=Aside0.mk (below_step (by repeat (first|(with_reducible first|exact HB.out|apply below_alloc|apply pw_below_drewN|apply below_drew1|refine below_set ?_ GE206.out|refine below_set ?_ GE207.out)|exact HB.out)) hb)
           clear HO_207000
           clear HO_207001
           clear HO239
           clear BK206
           clear BK207
           clear HB
           have HO_207000:=n0_
           have HO_207001:=n1_
           have HO239:=n2_
           have HO242:=n3_
           have HO245:=n4_
           have BK206:=n5_
           have BK207:=n6_
           have HB:=n7_
           clear n0_ n1_ n2_ n3_ n4_ n5_ n6_ n7_
           (try clear hb)
           (try clear hb2)
           (try clear hk)
           (try clear hi)
           (try clear ho0)
           (try clear ho1)
           obtain ⟨Ao23,co23,eo23⟩:=Kd.V_slice HO242.out
           (first|subst eo23|(injection eo23 with f1_ f2_ f3_;have f4_:=f1_.symm;have f5_:=f3_.symm;clear f1_ f2_ f3_;subst f4_;subst f5_))
           obtain ⟨Ao25,co25,eo25⟩:=Kd.V_slice HO245.out
           (first|subst eo25|(injection eo25 with f1_ f2_ f3_;have f4_:=f1_.symm;have f5_:=f3_.symm;clear f1_ f2_ f3_;subst f4_;subst f5_))
           refine hK.out _ _ ⟨(blk_cell BK206.out 0).trans rfl,(blk_cell BK206.out 1).trans rfl⟩ (fun hHeld=>?_)
           clear hK K
           refine norm_ (a':=?_) ?_ ?_
           rotate_left
           ·show Act.put _ (some 51) _ = _
            simp only [Act.put,List.setIfInBounds_toArray,List.set_cons_zero,List.set_cons_succ,i64_w,i32_w]
            rfl
           refine one_ (i:=8) (N:=none) #[true,true,true,true,true,true,true,true,true] rfl rfl (one_of HT_.out (by kernel_rfl)) (by decide) (fun K hK=>?_)
           have hs24:w22.cell? ⟨gb207,0,none⟩ = some (.slice none 0 0):=(blk_cell BK207.out 0).trans rfl
           have hfs24:=blk_frozen BK207.out 0
           have hns24_0:=NB206_207.out
           have hms24_0:=NB207_206.out
           have hs26:w22.cell? ⟨gb207,1,none⟩ = some (.slice none 0 0):=(blk_cell BK207.out 1).trans rfl
           have hfs26:=blk_frozen BK207.out 1
           have hns26_0:=NB206_207.out
           have hms26_0:=NB207_206.out
           refine skip_ (w1:=?_) (by rfl) rfl ?_ ?_
           rotate_left
           ·go_simp
            rfl
           refine hK.out _ _ ⟨((cell_far (p:=⟨gb207,_,none⟩) NB206_207.out _).trans (((cell_far (p:=⟨gb207,_,none⟩) NB206_207.out _).trans (hHeld.1)))),((cell_far (p:=⟨gb207,_,none⟩) NB206_207.out _).trans (((cell_far (p:=⟨gb207,_,none⟩) NB206_207.out _).trans (hHeld.2))))⟩ (fun hHeld=>?_)
           clear hK K
           refine done_ (done_of HT_.out (by kernel_rfl)) ?_
           try go_wp2
           refine bodyPost_ret (results_cell_row rfl _ _ gb207 43 #[.slice Ao23 t240.length co23,.slice Ao25 t243.length co25] (0,0) _ rfl (by (with_reducible repeat (first|refine blk_drewN ?_ _|refine blk_drew ?_|refine blk_alloc ?_ _));refine blk_put (cs:=#[.slice Ao23 t240.length co23,.slice none 0 0]) ?_ 1 _ rfl;(with_reducible repeat (first|refine blk_drewN ?_ _|refine blk_drew ?_|refine blk_alloc ?_ _));refine blk_put (cs:=#[.slice none 0 0,.slice none 0 0]) ?_ 0 _ rfl;(with_reducible repeat (first|refine blk_drewN ?_ _|refine blk_drew ?_|refine blk_alloc ?_ _));exact BK207.out) Try.underlying43 rfl (by kernel_rfl)) rfl ?_
           exact ⟨_,_,by first|rfl|(simp [errW_none,errW_some] <;> rfl)|(simp [*,errW_none,errW_some] <;> rfl)|(simp [errW_none,errW_some];exact ⟨rfl,rfl⟩),by (with_reducible repeat (first|apply Kd.V_alloc|apply Kd.V_drewN|apply Kd.V_drew));exact Kd.V_mono (Kd.V_far (p:=⟨gb207,1,none⟩) (Kd.V_far (p:=⟨gb207,0,none⟩) (Kd.V_mono HO242.out (fun k_ hk=>(⟨hk,hk.2.2⟩:_∧k_ ≠ gb207))) (fun _ hk=>hk.2) (.slice Ao23 t240.length co23)) (fun _ hk=>hk.2) (.slice Ao25 t243.length co25)) (fun _ hk=>hk.1.1),by (with_reducible repeat (first|apply Kd.V_alloc|apply Kd.V_drewN|apply Kd.V_drew));exact Kd.V_mono (Kd.V_far (p:=⟨gb207,1,none⟩) (Kd.V_far (p:=⟨gb207,0,none⟩) (Kd.V_mono HO245.out (fun k_ hk=>(⟨hk,hk.2.2⟩:_∧k_ ≠ gb207))) (fun _ hk=>hk.2) (.slice Ao23 t240.length co23)) (fun _ hk=>hk.2) (.slice Ao25 t243.length co25)) (fun _ hk=>hk.1.1),by repeat (first|(with_reducible first|exact HB.out|apply below_alloc|apply pw_below_drewN|apply below_drew1|refine below_set ?_ GE206.out|refine below_set ?_ GE207.out)|exact HB.out)⟩
          ·rw [if_neg c18] at H
           exact absurd H (by simp)
         ·rw [if_neg c17] at H
          exact absurd H (by simp)
        ·replace c16:=Bool.eq_false_iff.mpr c16
         subst c16
         have H1:(spec_l1Less.l0 k2 (l0_1.length:Int) (wrap64 (x4_1 + 1)) l0_0 l0_1) = some (r1,r2):=by rw [if_neg (show ¬ (false = true) by decide)] at H;exact H
         clear H
         have H:=H1
         clear H1
         have H':=Aside0.mk H
         clear H
         go_wp2
         go_roundg k2
         case measure=>have:=HK1.out;have:=HK2.out;omega
         case rel=>exact ⟨(wrap64 (x4_1 + 1)),(by first|rfl|(simp;done)|(simp [*];done)|(simp [Int.tmod_eq_emod_of_nonneg];done)),H',⟨by have:=HK1.out;have:=HK2.out;omega⟩,⟨by (with_reducible repeat (first|apply Kd.V_alloc|apply Kd.V_drewN|apply Kd.V_drew));exact HO_207000.out⟩,⟨by (with_reducible repeat (first|apply Kd.V_alloc|apply Kd.V_drewN|apply Kd.V_drew));exact HO_207001.out⟩,⟨by (with_reducible repeat (first|refine blk_drewN ?_ _|refine blk_drew ?_|refine blk_alloc ?_ _));exact BK206.out⟩,⟨by (with_reducible repeat (first|refine blk_drewN ?_ _|refine blk_drew ?_|refine blk_alloc ?_ _));exact BK207.out⟩,⟨by repeat (first|(with_reducible first|exact HB.out|apply below_alloc|apply pw_below_drewN|apply below_drew1|refine below_set ?_ GE206.out|refine below_set ?_ GE207.out)|exact HB.out)⟩⟩
   ·rw [if_neg c6] at H
    have c6b0:decide (x4_1 < (l0_1.length:Int)) = false:=decide_eq_false c6
    clear c6
    by_cases c27:(l0_0.length:Int) > 0
    ·rw [if_pos c27] at H
     have c27b0:decide (0 < (l0_0.length:Int)) = true:=decide_eq_true c27
     have c27b1:decide (0 < l0_0.length) = true:=decide_eq_true (by omega)
     clear c27
     obtain ⟨ji28,hji28⟩:∃ j_:Int,(wrap64 ((l0_0.length:Int) - 1)) = j_:=⟨_,rfl⟩
     replace H:(if 0≤(ji28) then (if (ji28) < (l0_0.length:Int) then (if 0≤(wrap64 ((l0_1.length:Int) - 1)) then (if (wrap64 ((l0_1.length:Int) - 1)) < (l0_1.length:Int) then (if ((rdOf false l0_0 (ji28)) == (rdOf false l0_1 (wrap64 ((l0_1.length:Int) - 1)))) = true then ((some (([rdOf false l0_1 (wrap64 ((l0_1.length:Int) - 1))]:List Bool):List Bool)).bind fun y211=>(if (wrap64 ((l0_1.length:Int) - 1))≤(l0_1.length:Int) then ((some (l0_1.take ((wrap64 ((l0_1.length:Int) - 1)):Int).toNat:List Bool)).bind fun y214=>(if y211.length + y214.length < 140737488355328 then (if (ji28)≤(l0_0.length:Int) then ((spec_l1Less.f k1 (l0_0.take ((ji28):Int).toNat) (y211 ++ y214)).bind fun bt227=>(some (bt227.1,bt227.2))) else (none)) else (none))) else (none))) else (some (l0_0,l0_1))) else (none)) else (none)) else (none)) else (none)) = some (r1,r2):=by first|(rw [hji28] at H;exact H)|(simp only [hji28] at H ⊢;exact H)
     have hji28w:(IntKind.i64.wrap ((l0_0.length:Int) - 1)) = ji28:=(i64_w _).trans hji28
     by_cases c29:0≤(ji28)
     ·rw [if_pos c29] at H
      have c29b0:decide (0≤(ji28)) = true:=decide_eq_true c29
      clear c29
      by_cases c30:(ji28) < (l0_0.length:Int)
      ·rw [if_pos c30] at H
       have c30b0:decide ((ji28) < (l0_0.length:Int)) = true:=decide_eq_true c30
       clear c30
       obtain ⟨ji31,hji31⟩:∃ j_:Int,(wrap64 ((l0_1.length:Int) - 1)) = j_:=⟨_,rfl⟩
       replace H:(if 0≤(ji31) then (if (ji31) < (l0_1.length:Int) then (if ((rdOf false l0_0 (ji28)) == (rdOf false l0_1 (ji31))) = true then ((some (([rdOf false l0_1 (ji31)]:List Bool):List Bool)).bind fun y211=>(if (ji31)≤(l0_1.length:Int) then ((some (l0_1.take ((ji31):Int).toNat:List Bool)).bind fun y214=>(if y211.length + y214.length < 140737488355328 then (if (ji28)≤(l0_0.length:Int) then ((spec_l1Less.f k1 (l0_0.take ((ji28):Int).toNat) (y211 ++ y214)).bind fun bt227=>(some (bt227.1,bt227.2))) else (none)) else (none))) else (none))) else (some (l0_0,l0_1))) else (none)) else (none)) = some (r1,r2):=by first|(rw [hji31] at H;exact H)|(simp only [hji31] at H ⊢;exact H)
       have hji31w:(IntKind.i64.wrap ((l0_1.length:Int) - 1)) = ji31:=(i64_w _).trans hji31
       by_cases c32:0≤(ji31)
       ·rw [if_pos c32] at H
        have c32b0:decide (0≤(ji31)) = true:=decide_eq_true c32
        clear c32
        by_cases c33:(ji31) < (l0_1.length:Int)
        ·rw [if_pos c33] at H
         have c33b0:decide ((ji31) < (l0_1.length:Int)) = true:=decide_eq_true c33
         clear c33
         by_cases c34:((rdOf false l0_0 (ji28)) == (rdOf false l0_1 (ji31))) = true
         ·rw [if_pos c34] at H
          have c34b0:((rdOf false l0_0 (ji28)) == (rdOf false l0_1 (ji31))) = true:=c34
          (try (have c34b1:decide ((rdOf false l0_0 (ji28)) = (rdOf false l0_1 (ji31))) = true:=by simpa using c34))
          (try (have c34b2:((rdOf false l0_0 (ji28)) == (rdOf false l0_1 (ji31))) = true:=by simpa using c34))
          clear c34
          obtain ⟨y211,hy211⟩:∃ y_:List Bool,y_ = (([rdOf false l0_1 (ji31)]:List Bool)):=⟨_,rfl⟩
          replace H:(if (ji31)≤(l0_1.length:Int) then ((some (l0_1.take ((ji31):Int).toNat:List Bool)).bind fun y214=>(if y211.length + y214.length < 140737488355328 then (if (ji28)≤(l0_0.length:Int) then ((spec_l1Less.f k1 (l0_0.take ((ji28):Int).toNat) (y211 ++ y214)).bind fun bt227=>(some (bt227.1,bt227.2))) else (none)) else (none))) else (none)) = some (r1,r2):=by first|(rw [hy211];with_reducible exact H)|(have H2_:=(Option.bind_some _ _).symm.trans H;rw [hy211];with_reducible exact H2_)|(have H2_:=(Option.bind_some _ _).symm.trans H;with_reducible exact H2_)|with_reducible exact H|(rw [hy211];exact H)|exact H
          have Ny211:=Aside0.mk hy211
          clear hy211
          have c35b0:=eq_true (of_decide_eq_true (by first|(with_reducible assumption)|assumption):0≤(ji31))
          by_cases c36:(ji31)≤(l0_1.length:Int)
          ·rw [if_pos c36] at H
           have c36b0:=eq_true c36
           have c36b1:decide ((ji31)≤(l0_1.length:Int)) = true:=decide_eq_true c36
           clear c36
           obtain ⟨y214,hy214⟩:∃ y_:List Bool,y_ = (l0_1.take ((ji31):Int).toNat):=⟨_,rfl⟩
           replace H:(if y211.length + y214.length < 140737488355328 then (if (ji28)≤(l0_0.length:Int) then ((spec_l1Less.f k1 (l0_0.take ((ji28):Int).toNat) (y211 ++ y214)).bind fun bt227=>(some (bt227.1,bt227.2))) else (none)) else (none)) = some (r1,r2):=by first|(rw [hy214];with_reducible exact H)|(have H2_:=(Option.bind_some _ _).symm.trans H;rw [hy214];with_reducible exact H2_)|(have H2_:=(Option.bind_some _ _).symm.trans H;with_reducible exact H2_)|with_reducible exact H|(rw [hy214];exact H)|exact H
           have Ny214:=Aside0.mk hy214
           clear hy214
           by_cases c37:y211.length + y214.length < 140737488355328
           ·rw [if_pos c37] at H
            have LMc37:=Aside0.mk c37
            clear c37
            obtain ⟨y219,hy219⟩:∃ y_:List Bool,y_ = (y211 ++ y214):=⟨_,rfl⟩
            replace H:(if (ji28)≤(l0_0.length:Int) then ((spec_l1Less.f k1 (l0_0.take ((ji28):Int).toNat) y219).bind fun bt227=>(some (bt227.1,bt227.2))) else (none)) = some (r1,r2):=by first|(rw [hy219];with_reducible exact H)|(have H2_:=(Option.bind_some _ _).symm.trans H;rw [hy219];with_reducible exact H2_)|(have H2_:=(Option.bind_some _ _).symm.trans H;with_reducible exact H2_)|with_reducible exact H|(rw [hy219];exact H)|exact H
            have Ny219:=Aside0.mk hy219
            clear hy219
            have c38b0:=eq_true (of_decide_eq_true (by first|(with_reducible assumption)|assumption):0≤(ji28))
            by_cases c39:(ji28)≤(l0_0.length:Int)
            ·rw [if_pos c39] at H
             have c39b0:=eq_true c39
             have c39b1:decide ((ji28)≤(l0_0.length:Int)) = true:=decide_eq_true c39
             clear c39
             obtain ⟨y222,hy222⟩:∃ y_:List Bool,y_ = (l0_0.take ((ji28):Int).toNat):=⟨_,rfl⟩
             replace H:((spec_l1Less.f k1 y222 y219).bind fun bt227=>(some (bt227.1,bt227.2))) = some (r1,r2):=by first|(rw [hy222];with_reducible exact H)|(have H2_:=(Option.bind_some _ _).symm.trans H;rw [hy222];with_reducible exact H2_)|(have H2_:=(Option.bind_some _ _).symm.trans H;with_reducible exact H2_)|with_reducible exact H|(rw [hy222];exact H)|exact H
             have Ny222:=Aside0.mk hy222
             clear hy222
             replace H:=Option.bind_eq_some_iff.mp H
             obtain ⟨⟨t227,t230⟩,A400,H⟩:=H
             replace H:(some (t227,t230)) = some (r1,r2):=H
             have A40:=Aside0.mk A400
             clear A400
             simp only [Option.some.injEq,Prod.mk.injEq] at H
             obtain ⟨rfl,rfl⟩:=H
             have hnb41:=NB206_207.out
             have hnc41:=NB207_206.out
             have hcz42_0:wr.cell? ⟨gb206,0,none⟩ = some (.slice A0_0 l0_0.length c0_0):=(blk_cell BK206.out 0).trans rfl
             have hcz42_1:wr.cell? ⟨gb206,1,none⟩ = some (.slice A0_1 l0_1.length c0_1):=(blk_cell BK206.out 1).trans rfl
             have hfz42_0:=blk_frozen BK206.out 0
             have hfz42_1:=blk_frozen BK206.out 1
             try go_wp2
             have n0_:=Aside0.mk (Kd.V_drew HO_207000.out)
             have n1_:=Aside0.mk (Kd.V_drew HO_207001.out)
             have n2_:=Aside0.mk (blk_drew BK206.out)
             have n3_:=Aside0.mk (blk_drew BK207.out)
             have n4_:=Aside0.mk (below_drew1 HB.out)
             clear HO_207000
             clear HO_207001
             clear BK206
             clear BK207
             clear HB
             have HO_207000:=n0_
             have HO_207001:=n1_
             have BK206:=n2_
             have BK207:=n3_
             have HB:=n4_
             clear n0_ n1_ n2_ n3_ n4_
             have p208:0≤((ji28):Int):=of_decide_eq_true (by first|(with_reducible assumption)|assumption)
             have q208:(ji28) < (l0_0.length:Int):=of_decide_eq_true (by first|(with_reducible assumption)|assumption)
             obtain ⟨ad208,e208,hx208_0⟩:=Kd.at_bool (Kd.V_reads' HO_207000.out).2.2 (ji28) p208 q208
             cases e208
             replace p208:=eq_true p208
             replace q208:=eq_true q208
             have p209:0≤((ji31):Int):=of_decide_eq_true (by first|(with_reducible assumption)|assumption)
             have q209:(ji31) < (l0_1.length:Int):=of_decide_eq_true (by first|(with_reducible assumption)|assumption)
             obtain ⟨ad209,e209,hx209_0⟩:=Kd.at_bool (Kd.V_reads' HO_207001.out).2.2 (ji31) p209 q209
             cases e209
             replace p209:=eq_true p209
             replace q209:=eq_true q209
             refine start_ (n:=17) (S:=fun w'=>w'.cell? ⟨gb206,0,none⟩ = some (.slice (some ad208) l0_0.length c0_0)∧w'.cell? ⟨gb206,1,none⟩ = some (.slice (some ad209) l0_1.length c0_1)∧w'.cell? (ad208.add ((ji28)).toNat) = some (.bool (rdOf false l0_0 (ji28)))∧w'.cell? (ad209.add ((ji31)).toNat) = some (.bool (rdOf false l0_1 (ji31)))) (ds:=[]) #[false,false,false,false,false,false,false,false,false,false,false,false,false,false,false,false,false] (by kernel_rfl) rfl rfl ⟨(blk_cell BK206.out 0).trans rfl,(blk_cell BK206.out 1).trans rfl,hx208_0,hx209_0⟩ (fun hHeld=>?_);refine with_tabW spec_l1Less.tab13 spec_l1Less.bits13 (fun HT_ HW_=>?_)
             generalize wr.drew = w43 at HO_207000 HO_207001 BK206 BK207 HB hx208_0 hx209_0 hHeld ⊢
             refine pure_ (i:=0) (N:=some 55) (v:=?_) (a':=?_) #[true,false,false,false,false,false,false,false,false,false,false,false,false,false,false,false,false] rfl rfl (any_of HT_.out (by kernel_rfl)) (fun _ _ _ h=>h) (Or.inl ⟨by rfl,?_⟩) ?_ ?_
             rotate_left
             ·intro w'
              go_simp
              with_reducible rfl
             rotate_left
             ·simp only [Act.put,List.setIfInBounds_toArray,List.set_cons_zero,List.set_cons_succ,i64_w,i32_w]
              rfl
             refine pure_ (i:=1) (N:=some 56) (v:=?_) (a':=?_) #[true,true,false,false,false,false,false,false,false,false,false,false,false,false,false,false,false] rfl rfl (any_of HT_.out (by kernel_rfl)) (fun _ _ _ h=>h) (Or.inl ⟨by rfl,?_⟩) ?_ ?_
             rotate_left
             ·intro w'
              go_simp
              with_reducible rfl
             rotate_left
             ·simp only [Act.put,List.setIfInBounds_toArray,List.set_cons_zero,List.set_cons_succ,i64_w,i32_w]
              rfl
             refine pure_ (i:=2) (N:=some 57) (v:=?_) (a':=?_) #[true,true,true,false,false,false,false,false,false,false,false,false,false,false,false,false,false] rfl rfl (any_of HT_.out (by kernel_rfl)) (fun _ _ _ h=>h) (Or.inl ⟨by rfl,?_⟩) ?_ ?_
             rotate_left
             ·intro w'
              go_simp
              with_reducible rfl
             rotate_left
             ·simp only [Act.put,List.setIfInBounds_toArray,List.set_cons_zero,List.set_cons_succ,i64_w,i32_w]
              rfl
             refine pure_ (i:=3) (N:=some 58) (v:=?_) (a':=?_) #[true,true,true,true,false,false,false,false,false,false,false,false,false,false,false,false,false] rfl rfl (any_of HT_.out (by kernel_rfl)) (fun _ _ _ h=>h) (Or.inl ⟨by rfl,?_⟩) ?_ ?_
             rotate_left
             ·intro w'
              go_simp
              with_reducible rfl
             rotate_left
             ·simp only [Act.put,List.setIfInBounds_toArray,List.set_cons_zero,List.set_cons_succ,i64_w,i32_w]
              rfl
             refine pure_ (i:=5) (N:=some 60) (v:=?_) (a':=?_) #[true,true,true,true,false,true,false,false,false,false,false,false,false,false,false,false,false] rfl rfl (any_of HT_.out (by kernel_rfl)) (fun _ _ _ h=>h) (Or.inl ⟨by rfl,?_⟩) ?_ ?_
             rotate_left
             ·intro w'
              go_simp
              with_reducible rfl
             rotate_left
             ·simp only [Act.put,List.setIfInBounds_toArray,List.set_cons_zero,List.set_cons_succ,i64_w,i32_w]
              rfl
             refine pure_ (i:=6) (N:=some 61) (v:=?_) (a':=?_) #[true,true,true,true,false,true,true,false,false,false,false,false,false,false,false,false,false] rfl rfl (any_of HT_.out (by kernel_rfl)) (fun _ _ _ h=>h) (Or.inl ⟨by rfl,?_⟩) ?_ ?_
             rotate_left
             ·intro w'
              go_simp
              with_reducible rfl
             rotate_left
             ·simp only [Act.put,List.setIfInBounds_toArray,List.set_cons_zero,List.set_cons_succ,i64_w,i32_w]
              rfl
             refine pure_ (i:=9) (N:=some 64) (v:=?_) (a':=?_) #[true,true,true,true,false,true,true,false,false,true,false,false,false,false,false,false,false] rfl rfl (any_of HT_.out (by kernel_rfl)) (fun _ _ _ h=>h) (Or.inl ⟨by rfl,?_⟩) ?_ ?_
             rotate_left
             ·intro w'
              go_simp
              with_reducible rfl
             rotate_left
             ·simp only [Act.put,List.setIfInBounds_toArray,List.set_cons_zero,List.set_cons_succ,i64_w,i32_w]
              rfl
             refine pure_ (i:=11) (N:=some 66) (v:=?_) (a':=?_) #[true,true,true,true,false,true,true,false,false,true,false,true,false,false,false,false,false] rfl rfl (any_of HT_.out (by kernel_rfl)) (fun _ _ _ h=>h) (Or.inl ⟨by rfl,?_⟩) ?_ ?_
             rotate_left
             ·intro w'
              go_simp
              with_reducible rfl
             rotate_left
             ·simp only [Act.put,List.setIfInBounds_toArray,List.set_cons_zero,List.set_cons_succ,i64_w,i32_w]
              rfl
             refine pure_ (i:=12) (N:=some 67) (v:=?_) (a':=?_) #[true,true,true,true,false,true,true,false,false,true,false,true,true,false,false,false,false] rfl rfl (any_of HT_.out (by kernel_rfl)) (fun _ _ _ h=>h) (Or.inl ⟨by rfl,?_⟩) ?_ ?_
             rotate_left
             ·intro w'
              go_simp
              with_reducible rfl
             rotate_left
             ·simp only [Act.put,List.setIfInBounds_toArray,List.set_cons_zero,List.set_cons_succ,i64_w,i32_w]
              rfl
             refine take_ (i:=4) (N:=some 59) (v:=?_) (a':=?_) #[true,true,true,true,true,true,true,false,false,true,false,true,true,false,false,false,false] rfl rfl (take_ofW HT_.out HW_.out (by kernel_rfl)) (fun _ _ _ h=>h) (Or.inl ⟨by rfl,?_⟩) hHeld ?_ ?_
             rotate_left
             ·rintro w' ⟨s0,s1,s2,s3⟩
              go_simp
              with_reducible rfl
             rotate_left
             ·simp only [Act.put,List.setIfInBounds_toArray,List.set_cons_zero,List.set_cons_succ,i64_w,i32_w]
              rfl
             refine pure_ (i:=7) (N:=some 62) (v:=?_) (a':=?_) #[true,true,true,true,true,true,true,true,false,true,false,true,true,false,false,false,false] rfl rfl (any_of HT_.out (by kernel_rfl)) (fun _ _ _ h=>h) (Or.inl ⟨by rfl,?_⟩) ?_ ?_
             rotate_left
             ·intro w'
              go_simp
              with_reducible rfl
             rotate_left
             ·simp only [Act.put,List.setIfInBounds_toArray,List.set_cons_zero,List.set_cons_succ,i64_w,i32_w]
              rfl
             refine take_ (i:=8) (N:=some 63) (v:=?_) (a':=?_) #[true,true,true,true,true,true,true,true,true,true,false,true,true,false,false,false,false] rfl rfl (take_ofW HT_.out HW_.out (by kernel_rfl)) (fun _ _ _ h=>h) (Or.inl ⟨by rfl,?_⟩) hHeld ?_ ?_
             rotate_left
             ·rintro w' ⟨s0,s1,s2,s3⟩
              go_simp
              with_reducible rfl
             rotate_left
             ·simp only [Act.put,List.setIfInBounds_toArray,List.set_cons_zero,List.set_cons_succ,i64_w,i32_w]
              rfl
             refine take_ (i:=10) (N:=some 65) (v:=?_) (a':=?_) #[true,true,true,true,true,true,true,true,true,true,true,true,true,false,false,false,false] rfl rfl (take_ofW HT_.out HW_.out (by kernel_rfl)) (fun _ _ _ h=>h) (Or.inl ⟨by rfl,?_⟩) hHeld ?_ ?_
             rotate_left
             ·rintro w' ⟨s0,s1,s2,s3⟩
              go_simp
              with_reducible rfl
             rotate_left
             ·simp only [Act.put,List.setIfInBounds_toArray,List.set_cons_zero,List.set_cons_succ,i64_w,i32_w]
              rfl
             refine pure_ (i:=13) (N:=some 68) (v:=?_) (a':=?_) #[true,true,true,true,true,true,true,true,true,true,true,true,true,true,false,false,false] rfl rfl (any_of HT_.out (by kernel_rfl)) (fun _ _ _ h=>h) (Or.inl ⟨by rfl,?_⟩) ?_ ?_
             rotate_left
             ·intro w'
              go_simp
              with_reducible rfl
             rotate_left
             ·simp only [Act.put,List.setIfInBounds_toArray,List.set_cons_zero,List.set_cons_succ,i64_w,i32_w]
              rfl
             refine take_ (i:=14) (N:=some 69) (v:=?_) (a':=?_) #[true,true,true,true,true,true,true,true,true,true,true,true,true,true,true,false,false] rfl rfl (take_ofW HT_.out HW_.out (by kernel_rfl)) (fun _ _ _ h=>h) (Or.inl ⟨by rfl,?_⟩) hHeld ?_ ?_
             rotate_left
             ·rintro w' ⟨s0,s1,s2,s3⟩
              go_simp
              with_reducible rfl
             rotate_left
             ·simp only [Act.put,List.setIfInBounds_toArray,List.set_cons_zero,List.set_cons_succ,i64_w,i32_w]
              rfl
             refine pure_ (i:=15) (N:=some 70) (v:=?_) (a':=?_) #[true,true,true,true,true,true,true,true,true,true,true,true,true,true,true,true,false] rfl rfl (any_of HT_.out (by kernel_rfl)) (fun _ _ _ h=>h) (Or.inl ⟨by rfl,?_⟩) ?_ ?_
             rotate_left
             ·intro w'
              go_simp
              with_reducible rfl
             rotate_left
             ·simp only [Act.put,List.setIfInBounds_toArray,List.set_cons_zero,List.set_cons_succ,i64_w,i32_w]
              rfl
             refine pure_ (i:=16) (N:=some 71) (v:=?_) (a':=?_) #[true,true,true,true,true,true,true,true,true,true,true,true,true,true,true,true,true] rfl rfl (any_of HT_.out (by kernel_rfl)) (fun _ _ _ h=>h) (Or.inl ⟨by rfl,?_⟩) ?_ ?_
             rotate_left
             ·intro w'
              go_simp
              with_reducible rfl
             rotate_left
             ·simp only [Act.put,List.setIfInBounds_toArray,List.set_cons_zero,List.set_cons_succ,i64_w,i32_w]
              rfl
             refine done_ (done_of HT_.out (by kernel_rfl)) ?_
             try go_wp2
             have n0_:=Aside0.mk (Kd.V_drew HO_207000.out)
             have n1_:=Aside0.mk (Kd.V_drew HO_207001.out)
             have n2_:=Aside0.mk (blk_drew BK206.out)
             have n3_:=Aside0.mk (blk_drew BK207.out)
             have n4_:=Aside0.mk (below_drew1 HB.out)
             clear HO_207000
             clear HO_207001
             clear BK206
             clear BK207
             clear HB
             have HO_207000:=n0_
             have HO_207001:=n1_
             have BK206:=n2_
             have BK207:=n3_
             have HB:=n4_
             clear n0_ n1_ n2_ n3_ n4_
             have p210:0≤((ji31):Int):=of_decide_eq_true (by first|(with_reducible assumption)|assumption)
             have q210:(ji31) < (l0_1.length:Int):=of_decide_eq_true (by first|(with_reducible assumption)|assumption)
             obtain ⟨ad210,e210,hx210_0⟩:=Kd.at_bool (Kd.V_reads' HO_207001.out).2.2 (ji31) p210 q210
             obtain rfl:ad209 = ad210:=(by injection e210)
             replace p210:=eq_true p210
             replace q210:=eq_true q210
             have q45:((ji31):Int)≤((l0_1.length:Int):Int):=of_decide_eq_true (by first|(with_reducible assumption)|assumption)
             obtain ⟨i045,hi045,_,hsz45,_⟩:=info_parts info4
             have hroom45:l0_1.length≤c0_1:=(Kd.V_reads' HO_207001.out).2.1
             have hC45:Kd.F Kd.bool _ _ (some ad209) l0_1.length l0_1:=(Kd.V_at (base:=w.heap.size) HO_207001.out).2.2
             have hcut45:=cut_to (P:=Try.prog) 40 4 .i64 Try.underlying40 hi045 (some ad209) l0_1.length c0_1 (ji31) (of_decide_eq_true (by first|(with_reducible assumption)|assumption)) q45 hroom45
             have hr45:=Kd.F_take (m:=((ji31):Int).toNat) hC45 (by omega)
             have hy45:y214.length = ((ji31):Int).toNat:=(by rw [Ny214.out,List.length_take];omega)
             rw [← Ny214.out] at hr45
             rw [← hy45] at hcut45
             have HO218:=Aside0.mk (show Kd.V Kd.bool 4 _ w.heap.size _ (.slice (some ad209) y214.length c0_1) y214 from Kd.V_mk (by omega) hr45)
             have HC218:=Aside0.mk (show y214.length≤c0_1 from by omega)
             clear hr45 hC45 hroom45 hi045 hsz45
             have KY45:=Aside0.mk hy45
             clear hy45
             replace q45:=eq_true q45
             refine start_ (n:=14) (S:=fun w'=>w'.cell? ⟨gb206,0,none⟩ = some (.slice (some ad208) l0_0.length c0_0)∧w'.cell? ⟨gb206,1,none⟩ = some (.slice (some ad209) l0_1.length c0_1)∧w'.cell? (ad209.add ((ji31)).toNat) = some (.bool (rdOf false l0_1 (ji31)))) (ds:=[12]) #[false,false,false,false,false,false,false,false,false,false,false,false,false,false] (by kernel_rfl) rfl rfl ⟨(blk_cell BK206.out 0).trans rfl,(blk_cell BK206.out 1).trans rfl,hx210_0⟩ (fun hHeld=>?_);refine with_tabW spec_l1Less.tab14 spec_l1Less.bits14 (fun HT_ HW_=>?_)
             generalize w43.drew = w44 at HO_207000 HO_207001 BK206 BK207 HB HO218 hx210_0 hHeld ⊢
             refine pure_ (i:=0) (N:=some 72) (v:=?_) (a':=?_) #[true,false,false,false,false,false,false,false,false,false,false,false,false,false] rfl rfl (any_of HT_.out (by kernel_rfl)) (fun _ _ _ h=>h) (Or.inl ⟨by rfl,?_⟩) ?_ ?_
             rotate_left
             ·intro w'
              go_simp
              with_reducible rfl
             rotate_left
             ·simp only [Act.put,List.setIfInBounds_toArray,List.set_cons_zero,List.set_cons_succ,i64_w,i32_w]
              rfl
             refine pure_ (i:=2) (N:=some 74) (v:=?_) (a':=?_) #[true,false,true,false,false,false,false,false,false,false,false,false,false,false] rfl rfl (any_of HT_.out (by kernel_rfl)) (fun _ _ _ h=>h) (Or.inl ⟨by rfl,?_⟩) ?_ ?_
             rotate_left
             ·intro w'
              go_simp
              with_reducible rfl
             rotate_left
             ·simp only [Act.put,List.setIfInBounds_toArray,List.set_cons_zero,List.set_cons_succ,i64_w,i32_w]
              rfl
             refine pure_ (i:=3) (N:=some 75) (v:=?_) (a':=?_) #[true,false,true,true,false,false,false,false,false,false,false,false,false,false] rfl rfl (any_of HT_.out (by kernel_rfl)) (fun _ _ _ h=>h) (Or.inl ⟨by rfl,?_⟩) ?_ ?_
             rotate_left
             ·intro w'
              go_simp
              with_reducible rfl
             rotate_left
             ·simp only [Act.put,List.setIfInBounds_toArray,List.set_cons_zero,List.set_cons_succ,i64_w,i32_w]
              rfl
             refine pure_ (i:=7) (N:=some 79) (v:=?_) (a':=?_) #[true,false,true,true,false,false,false,true,false,false,false,false,false,false] rfl rfl (any_of HT_.out (by kernel_rfl)) (fun _ _ _ h=>h) (Or.inl ⟨by rfl,?_⟩) ?_ ?_
             rotate_left
             ·intro w'
              go_simp
              with_reducible rfl
             rotate_left
             ·simp only [Act.put,List.setIfInBounds_toArray,List.set_cons_zero,List.set_cons_succ,i64_w,i32_w]
              rfl
             refine pure_ (i:=9) (N:=some 81) (v:=?_) (a':=?_) #[true,false,true,true,false,false,false,true,false,true,false,false,false,false] rfl rfl (any_of HT_.out (by kernel_rfl)) (fun _ _ _ h=>h) (Or.inl ⟨by rfl,?_⟩) ?_ ?_
             rotate_left
             ·intro w'
              go_simp
              with_reducible rfl
             rotate_left
             ·simp only [Act.put,List.setIfInBounds_toArray,List.set_cons_zero,List.set_cons_succ,i64_w,i32_w]
              rfl
             refine pure_ (i:=10) (N:=some 82) (v:=?_) (a':=?_) #[true,false,true,true,false,false,false,true,false,true,true,false,false,false] rfl rfl (any_of HT_.out (by kernel_rfl)) (fun _ _ _ h=>h) (Or.inl ⟨by rfl,?_⟩) ?_ ?_
             rotate_left
             ·intro w'
              go_simp
              with_reducible rfl
             rotate_left
             ·simp only [Act.put,List.setIfInBounds_toArray,List.set_cons_zero,List.set_cons_succ,i64_w,i32_w]
              rfl
             refine take_ (i:=1) (N:=some 73) (v:=?_) (a':=?_) #[true,true,true,true,false,false,false,true,false,true,true,false,false,false] rfl rfl (take_ofW HT_.out HW_.out (by kernel_rfl)) (fun _ _ _ h=>h) (Or.inl ⟨by rfl,?_⟩) hHeld ?_ ?_
             rotate_left
             ·rintro w' ⟨s0,s1,s2⟩
              go_simp
              with_reducible rfl
             rotate_left
             ·simp only [Act.put,List.setIfInBounds_toArray,List.set_cons_zero,List.set_cons_succ,i64_w,i32_w]
              rfl
             refine pure_ (i:=4) (N:=some 76) (v:=?_) (a':=?_) #[true,true,true,true,true,false,false,true,false,true,true,false,false,false] rfl rfl (any_of HT_.out (by kernel_rfl)) (fun _ _ _ h=>h) (Or.inl ⟨by rfl,?_⟩) ?_ ?_
             rotate_left
             ·intro w'
              go_simp
              with_reducible rfl
             rotate_left
             ·simp only [Act.put,List.setIfInBounds_toArray,List.set_cons_zero,List.set_cons_succ,i64_w,i32_w]
              rfl
             refine take_ (i:=5) (N:=some 77) (v:=?_) (a':=?_) #[true,true,true,true,true,true,false,true,false,true,true,false,false,false] rfl rfl (take_ofW HT_.out HW_.out (by kernel_rfl)) (fun _ _ _ h=>h) (Or.inl ⟨by rfl,?_⟩) hHeld ?_ ?_
             rotate_left
             ·rintro w' ⟨s0,s1,s2⟩
              go_simp
              with_reducible rfl
             rotate_left
             ·simp only [Act.put,List.setIfInBounds_toArray,List.set_cons_zero,List.set_cons_succ,i64_w,i32_w]
              rfl
             refine take_ (i:=8) (N:=some 80) (v:=?_) (a':=?_) #[true,true,true,true,true,true,false,true,true,true,true,false,false,false] rfl rfl (take_ofW HT_.out HW_.out (by kernel_rfl)) (fun _ _ _ h=>h) (Or.inl ⟨by rfl,?_⟩) hHeld ?_ ?_
             rotate_left
             ·rintro w' ⟨s0,s1,s2⟩
              go_simp
              with_reducible rfl
             rotate_left
             ·simp only [Act.put,List.setIfInBounds_toArray,List.set_cons_zero,List.set_cons_succ,i64_w,i32_w]
              rfl
             refine pure_ (i:=11) (N:=some 83) (v:=?_) (a':=?_) #[true,true,true,true,true,true,false,true,true,true,true,true,false,false] rfl rfl (any_of HT_.out (by kernel_rfl)) (fun _ _ _ h=>h) (Or.inl ⟨by rfl,?_⟩) ?_ ?_
             rotate_left
             ·intro w'
              go_simp
              with_reducible rfl
             rotate_left
             ·simp only [Act.put,List.setIfInBounds_toArray,List.set_cons_zero,List.set_cons_succ,i64_w,i32_w]
              rfl
             refine one_ (i:=6) (N:=some 78) #[true,true,true,true,true,true,true,true,true,true,true,true,false,false] rfl rfl (one_of HT_.out (by kernel_rfl)) (by decide) (fun K hK=>?_)
             refine Kd.R_lit_step Kd.bool _ 4 ?hg (N:=78) ?hd (xs:=([rdOf false l0_1 (ji31)]:List Bool)) (inner:=[.bool (rdOf false l0_1 (ji31))]) (ok:=fun _=>True) (okp:=fun _=>True) ?hr ?hp (fun _ hk=>hk) trivial (Below.refl _ _) (Nat.le_refl _) (by simp) ?_;(case hd=>rfl);(case hg=>rfl);(case hr=>first|(go_simp;done)|(go_simp;rfl));(case hp=>exact (Reps.one (show Kd.M Kd.bool _ _ _ (rdOf false l0_1 (ji31)) [.bool (rdOf false l0_1 (ji31))] from rfl) (Reps.none _ _)))
             intro v212 w46 ho47 hb hg_ hnew_
             have HS2_:=(hb.cell (World.block_lt_of_cell? _ _ (hHeld.2.2))).trans (hHeld.2.2)
             clear hg_ hnew_
             (first|rw [← Ny211.out] at ho47|(simp only [Int.reduceToNat] at ho47;rw [← Ny211.out] at ho47))
             have n0_:=Aside0.mk (Kd.V_elder' (by (with_reducible repeat (first|apply Kd.V_alloc|apply Kd.V_drewN|apply Kd.V_drew));exact HO_207000.out) (Kd.R_base ho47) hb)
             have n1_:=Aside0.mk (Kd.V_elder' (by (with_reducible repeat (first|apply Kd.V_alloc|apply Kd.V_drewN|apply Kd.V_drew));exact HO_207001.out) (Kd.R_base ho47) hb)
             have n2_:=Aside0.mk (Kd.V_elder' (by (with_reducible repeat (first|apply Kd.V_alloc|apply Kd.V_drewN|apply Kd.V_drew));exact HO218.out) (Kd.R_base ho47) hb)
             have n3_:=Aside0.mk (Kd.R_lower (Kd.R_newM (M:=fun k_=>(w.heap.size≤k_)) ho47 (below_size (by repeat (first|(with_reducible first|exact HB.out|apply below_alloc|apply pw_below_drewN|apply below_drew1|refine below_set ?_ GE206.out|refine below_set ?_ GE207.out)|exact HB.out))) (fun k_ h_=>h_)) (below_size (by repeat (first|(with_reducible first|exact HB.out|apply below_alloc|apply pw_below_drewN|apply below_drew1|refine below_set ?_ GE206.out|refine below_set ?_ GE207.out)|exact HB.out))))
             have n4_:=Aside0.mk (blk_below (g:=gb206) (o:=.cells #[.slice (some ad208) l0_0.length c0_0,.slice (some ad209) l0_1.length c0_1] 43 (0,0)) (by (with_reducible repeat (first|refine blk_drewN ?_ _|refine blk_drew ?_|refine blk_alloc ?_ _));exact BK206.out) hb)
             have n5_:=Aside0.mk (blk_below (g:=gb207) (o:=.cells #[.slice none 0 0,.slice none 0 0] 43 (0,0)) (by (with_reducible repeat (first|refine blk_drewN ?_ _|refine blk_drew ?_|refine blk_alloc ?_ _));exact BK207.out) hb)
             have n6_:=Aside0.mk (below_step (by repeat (first|(with_reducible first|exact HB.out|apply below_alloc|apply pw_below_drewN|apply below_drew1|refine below_set ?_ GE206.out|refine below_set ?_ GE207.out)|exact HB.out)) hb)
             clear HO_207000
             clear HO_207001
             clear HO218
             clear BK206
             clear BK207
             clear HB
             have HO_207000:=n0_
             have HO_207001:=n1_
             have HO218:=n2_
             have HO213:=n3_
             have BK206:=n4_
             have BK207:=n5_
             have HB:=n6_
             clear n0_ n1_ n2_ n3_ n4_ n5_ n6_
             clear hb ho47
             refine hK.out _ _ ⟨(blk_cell BK206.out 0).trans rfl,(blk_cell BK206.out 1).trans rfl,HS2_⟩ (fun hHeld=>?_)
             clear hK K
             refine norm_ (a':=?_) ?_ ?_
             rotate_left
             ·show Act.put _ (some 78) _ = _
              simp only [Act.put,List.setIfInBounds_toArray,List.set_cons_zero,List.set_cons_succ,i64_w,i32_w]
              rfl
             refine last_ (i:=12) (N:=some 84) #[true,true,true,true,true,true,true,true,true,true,true,true,true,false] rfl rfl (one_of HT_.out (by kernel_rfl)) (by decide) (fun K hK=>?_)
             refine Kd.R_append_rows_step Kd.bool (w0:=w) w.heap.size (by rfl) (.tmp 78) (.tmp 83) 40 4 (.bool false) 1 rfl Try.underlying40 info4 rfl (by decide) (by omega) v212 y211 y214 _ _ _ (fun k_=>(w.heap.size≤k_)) (fun _=>False) rfl rfl ?aO ?aR (fun _ _ h=>h) (fun _ h=>h.elim) ?aF ?aB ?aS ?aL ?_
             (case aR=>repeat (first|exact (Kd.V_reads' HO218.out).2.2|(with_reducible refine Kd.C_alloc ?_ _)|(with_reducible refine Kd.C_drewN ?_ _)|(with_reducible refine Kd.C_drew ?_)))
             (case aB=>exact (by repeat (first|(with_reducible first|exact HB.out|apply below_alloc|apply pw_below_drewN|apply below_drew1|refine below_set ?_ GE206.out|refine below_set ?_ GE207.out)|exact HB.out)))
             (case aF=>exact (fun k_ hk=>(Nat.le_trans (below_size (by repeat (first|(with_reducible first|exact HB.out|apply below_alloc|apply pw_below_drewN|apply below_drew1|refine below_set ?_ GE206.out|refine below_set ?_ GE207.out)|exact HB.out))) hk)))
             (case aO=>exact (by (with_reducible repeat (first|apply Kd.R_alloc|apply Kd.R_drewN|apply Kd.R_drew));exact Kd.R_mono HO213.out (fun _ hk=>hk.1)))
             (case aS=>exact (below_size (by repeat (first|(with_reducible first|exact HB.out|apply below_alloc|apply pw_below_drewN|apply below_drew1|refine below_set ?_ GE206.out|refine below_set ?_ GE207.out)|exact HB.out))))
             (case aL=>have:=LMc37.out;omega)
             intro v220 w48 ho hb hg hat
             rw [← Ny219.out] at ho
             have n0_:=Aside0.mk (Kd.V_afterv (ok:=(fun k_=>((P0_0_ k_ ∨ P0_1_ k_) ∨ w.heap.size≤k_)∧k_ ≠ gb206∧k_ ≠ gb207)) (by (with_reducible repeat (first|apply Kd.V_alloc|apply Kd.V_drewN|apply Kd.V_drew));exact HO_207000.out) hg hat)
             have n1_:=Aside0.mk (Kd.V_afterv (ok:=(fun k_=>((P0_0_ k_ ∨ P0_1_ k_) ∨ w.heap.size≤k_)∧k_ ≠ gb206∧k_ ≠ gb207)) (by (with_reducible repeat (first|apply Kd.V_alloc|apply Kd.V_drewN|apply Kd.V_drew));exact HO_207001.out) hg hat)
             have n2_:=Aside0.mk (blk_grown (g:=gb206) (o:=.cells #[.slice (some ad208) l0_0.length c0_0,.slice (some ad209) l0_1.length c0_1] 43 (0,0)) (by (with_reducible repeat (first|refine blk_drewN ?_ _|refine blk_drew ?_|refine blk_alloc ?_ _));exact BK206.out) hg (Kd.R_ne HO213.out BK206.out (by decide)))
             have n3_:=Aside0.mk (blk_grown (g:=gb207) (o:=.cells #[.slice none 0 0,.slice none 0 0] 43 (0,0)) (by (with_reducible repeat (first|refine blk_drewN ?_ _|refine blk_drew ?_|refine blk_alloc ?_ _));exact BK207.out) hg (Kd.R_ne HO213.out BK207.out (by decide)))
             have n4_:=Aside0.mk (Kd.V_afterv (ok:=(fun k_=>((P0_0_ k_ ∨ P0_1_ k_) ∨ w.heap.size≤k_)∧k_ ≠ gb206∧k_ ≠ gb207)) (by (with_reducible repeat (first|apply Kd.V_alloc|apply Kd.V_drewN|apply Kd.V_drew));exact HO218.out) hg hat)
             have n5_:=Aside0.mk (hb)
             have n6_:=Aside0.mk (ho)
             clear HO_207000
             clear HO_207001
             clear BK206
             clear BK207
             clear HO218
             clear HB
             clear HO213
             have HO_207000:=n0_
             have HO_207001:=n1_
             have BK206:=n2_
             have BK207:=n3_
             have HO218:=n4_
             have HB:=n5_
             have HO221:=n6_
             clear n0_ n1_ n2_ n3_ n4_ n5_ n6_
             clear ho hb hg hat
             refine hK.out _ _ ?_
             clear hK K
             refine norm_ (a':=?_) ?_ ?_
             rotate_left
             ·show Act.put _ (some 84) _ = _
              simp only [Act.put,List.setIfInBounds_toArray,List.set_cons_zero,List.set_cons_succ,i64_w,i32_w]
              rfl
             refine pure_ (i:=13) (N:=some 8) (v:=?_) (a':=?_) #[true,true,true,true,true,true,true,true,true,true,true,true,true,true] rfl rfl (any_of HT_.out (by kernel_rfl)) (fun _ _ _ h=>h) (Or.inl ⟨by rfl,?_⟩) ?_ ?_
             rotate_left
             ·intro w'
              go_simp
              with_reducible rfl
             rotate_left
             ·simp only [Act.put,List.setIfInBounds_toArray,List.set_cons_zero,List.set_cons_succ,i64_w,i32_w]
              rfl
             refine done_ (done_of HT_.out (by kernel_rfl)) ?_
             have hcz49_0:w48.cell? ⟨gb206,0,none⟩ = some (.slice (some ad208) l0_0.length c0_0):=(blk_cell BK206.out 0).trans rfl
             have hcz49_1:w48.cell? ⟨gb206,1,none⟩ = some (.slice (some ad209) l0_1.length c0_1):=(blk_cell BK206.out 1).trans rfl
             have hfz49_0:=blk_frozen BK206.out 0
             have hfz49_1:=blk_frozen BK206.out 1
             have q50:((ji28):Int)≤((l0_0.length:Int):Int):=of_decide_eq_true (by first|(with_reducible assumption)|assumption)
             obtain ⟨i050,hi050,_,hsz50,_⟩:=info_parts info4
             have hroom50:l0_0.length≤c0_0:=(Kd.V_reads' HO_207000.out).2.1
             have hC50:Kd.F Kd.bool _ _ (some ad208) l0_0.length l0_0:=(Kd.V_at (base:=w.heap.size) HO_207000.out).2.2
             have hcut50:=cut_to (P:=Try.prog) 40 4 .i64 Try.underlying40 hi050 (some ad208) l0_0.length c0_0 (ji28) (of_decide_eq_true (by first|(with_reducible assumption)|assumption)) q50 hroom50
             have hr50:=Kd.F_take (m:=((ji28):Int).toNat) hC50 (by omega)
             have hy50:y222.length = ((ji28):Int).toNat:=(by rw [Ny222.out,List.length_take];omega)
             rw [← Ny222.out] at hr50
             rw [← hy50] at hcut50
             have HO226:=Aside0.mk (show Kd.V Kd.bool 4 _ w.heap.size _ (.slice (some ad208) y222.length c0_0) y222 from Kd.V_mk (by omega) hr50)
             have HC226:=Aside0.mk (show y222.length≤c0_0 from by omega)
             clear hr50 hC50 hroom50 hi050 hsz50
             have KY50:=Aside0.mk hy50
             clear hy50
             replace q50:=eq_true q50
             obtain ⟨Ao51,co51,eo51⟩:=Kd.R_slice HO221.out
             subst eo51
             try go_wp2_with (first|((with_reducible refine gate_callee (f:=28) rfl ?_);refine goesL_ (some 92) rfl rfl Try.func28 (by kernel_rfl) rfl #[.agg #[.slice (some ad208) y222.length c0_0,.slice Ao51 y219.length co51]] rfl (by (try simp only [List.map_toArray,List.map_cons,List.map_nil]);first|done|rfl|(simp only [List.length_drop,List.length_take];rfl)) ?_;(with_reducible refine (ih k1 (by have:=HK1.out;omega) (fun k_=>((((P0_0_ k_ ∨ P0_1_ k_) ∨ w.heap.size≤k_)∧(k_ ≠ gb206∧k_ ≠ gb207))∧some k_ ≠ (.slice Ao51 y219.length co51:Value).ownBlock)) _ _ y222 (fun k_=>some k_ = (.slice Ao51 y219.length co51:Value).ownBlock) _ _ y219 t227 t230 _ ?side1 ?side2 A40.out).mono ?_);(case side1=>exact HO226.out);(case side2=>exact Kd.R_V (Kd.R_tight rfl (Kd.R_types (Kd.R_types (HO221.out) BK206.out (by decide)) BK207.out (by decide))));rintro e w52 ⟨v228,v231,rfl,ho0,ho1,hb⟩;refine ⟨_,rfl,?_⟩;have n0_:=Aside0.mk (Kd.V_below (by (with_reducible repeat (first|apply Kd.V_alloc|apply Kd.V_drewN|apply Kd.V_drew));exact HO_207000.out) hb);have n1_:=Aside0.mk (Kd.V_below (by (with_reducible repeat (first|apply Kd.V_alloc|apply Kd.V_drewN|apply Kd.V_drew));exact HO_207001.out) hb);have n2_:=Aside0.mk (Kd.V_below (by (with_reducible repeat (first|apply Kd.V_alloc|apply Kd.V_drewN|apply Kd.V_drew));exact HO218.out) hb);have n3_:=Aside0.mk (Kd.R_below (by (with_reducible repeat (first|apply Kd.R_alloc|apply Kd.R_drewN|apply Kd.R_drew));exact HO221.out) hb);have n4_:=Aside0.mk (Kd.V_below (by (with_reducible repeat (first|apply Kd.V_alloc|apply Kd.V_drewN|apply Kd.V_drew));exact HO226.out) hb);have n5_:=Aside0.mk (Kd.V_lower (Kd.V_mono (ok':=fun k_=>((P0_0_ k_ ∨ P0_1_ k_) ∨ w.heap.size≤k_)∧k_ ≠ gb206∧k_ ≠ gb207) ho0 (fun k_ hk_=>⟨Or.elim hk_ (fun hs_=>Or.elim hs_ (fun hs_=>hs_.1.1) (fun hs_=>(.inr (((Kd.R_types (Kd.R_types (HO221.out) BK206.out (by decide)) BK207.out (by decide)).1 k_ hs_.symm).1.1)))) (fun hn_=>(.inr (Nat.le_trans (below_size (by repeat (first|(with_reducible first|exact HB.out|apply below_alloc|apply pw_below_drewN|apply below_drew1|refine below_set ?_ GE206.out|refine below_set ?_ GE207.out)|exact HB.out))) hn_))),Or.elim hk_ (fun hs_=>Or.elim hs_ (fun hs_=>hs_.1.2.1) (fun hs_=>((Kd.R_types (Kd.R_types (HO221.out) BK206.out (by decide)) BK207.out (by decide)).1 k_ hs_.symm).1.2)) (fun hn_=>(Kd.freshB (g:=gb206) (o:=.cells #[.slice (some ad208) l0_0.length c0_0,.slice (some ad209) l0_1.length c0_1] 43 (0,0)) (by (with_reducible repeat (first|refine blk_drewN ?_ _|refine blk_drew ?_|refine blk_alloc ?_ _));exact BK206.out) k_ hn_)),Or.elim hk_ (fun hs_=>Or.elim hs_ (fun hs_=>hs_.1.2.2) (fun hs_=>((Kd.R_types (Kd.R_types (HO221.out) BK206.out (by decide)) BK207.out (by decide)).1 k_ hs_.symm).2)) (fun hn_=>(Kd.freshB (g:=gb207) (o:=.cells #[.slice none 0 0,.slice none 0 0] 43 (0,0)) (by (with_reducible repeat (first|refine blk_drewN ?_ _|refine blk_drew ?_|refine blk_alloc ?_ _));exact BK207.out) k_ hn_))⟩)) (below_size (by repeat (first|(with_reducible first|exact HB.out|apply below_alloc|apply pw_below_drewN|apply below_drew1|refine below_set ?_ GE206.out|refine below_set ?_ GE207.out)|exact HB.out))));have n6_:=Aside0.mk (Kd.V_lower (Kd.V_mono (ok':=fun k_=>((P0_0_ k_ ∨ P0_1_ k_) ∨ w.heap.size≤k_)∧k_ ≠ gb206∧k_ ≠ gb207) ho1 (fun k_ hk_=>⟨Or.elim hk_ (fun hs_=>Or.elim hs_ (fun hs_=>hs_.1.1) (fun hs_=>(.inr (((Kd.R_types (Kd.R_types (HO221.out) BK206.out (by decide)) BK207.out (by decide)).1 k_ hs_.symm).1.1)))) (fun hn_=>(.inr (Nat.le_trans (below_size (by repeat (first|(with_reducible first|exact HB.out|apply below_alloc|apply pw_below_drewN|apply below_drew1|refine below_set ?_ GE206.out|refine below_set ?_ GE207.out)|exact HB.out))) hn_))),Or.elim hk_ (fun hs_=>Or.elim hs_ (fun hs_=>hs_.1.2.1) (fun hs_=>((Kd.R_types (Kd.R_types (HO221.out) BK206.out (by decide)) BK207.out (by decide)).1 k_ hs_.symm).1.2)) (fun hn_=>(Kd.freshB (g:=gb206) (o:=.cells #[.slice (some ad208) l0_0.length c0_0,.slice (some ad209) l0_1.length c0_1] 43 (0,0)) (by (with_reducible repeat (first|refine blk_drewN ?_ _|refine blk_drew ?_|refine blk_alloc ?_ _));exact BK206.out) k_ hn_)),Or.elim hk_ (fun hs_=>Or.elim hs_ (fun hs_=>hs_.1.2.2) (fun hs_=>((Kd.R_types (Kd.R_types (HO221.out) BK206.out (by decide)) BK207.out (by decide)).1 k_ hs_.symm).2)) (fun hn_=>(Kd.freshB (g:=gb207) (o:=.cells #[.slice none 0 0,.slice none 0 0] 43 (0,0)) (by (with_reducible repeat (first|refine blk_drewN ?_ _|refine blk_drew ?_|refine blk_alloc ?_ _));exact BK207.out) k_ hn_))⟩)) (below_size (by repeat (first|(with_reducible first|exact HB.out|apply below_alloc|apply pw_below_drewN|apply below_drew1|refine below_set ?_ GE206.out|refine below_set ?_ GE207.out)|exact HB.out))));have n7_:=Aside0.mk (blk_below (g:=gb206) (o:=.cells #[.slice (some ad208) l0_0.length c0_0,.slice (some ad209) l0_1.length c0_1] 43 (0,0)) (by (with_reducible repeat (first|refine blk_drewN ?_ _|refine blk_drew ?_|refine blk_alloc ?_ _));exact BK206.out) hb);have n8_:=Aside0.mk (blk_below (g:=gb207) (o:=.cells #[.slice none 0 0,.slice none 0 0] 43 (0,0)) (by (with_reducible repeat (first|refine blk_drewN ?_ _|refine blk_drew ?_|refine blk_alloc ?_ _));exact BK207.out) hb);have n9_:=Aside0.mk (below_step (by repeat (first|(with_reducible first|exact HB.out|apply below_alloc|apply pw_below_drewN|apply below_drew1|refine below_set ?_ GE206.out|refine below_set ?_ GE207.out)|exact HB.out)) hb);clear HO_207000;clear HO_207001;clear HO218;clear HO221;clear HO226;clear BK206;clear BK207;clear HB;have HO_207000:=n0_;have HO_207001:=n1_;have HO218:=n2_;have HO221:=n3_;have HO226:=n4_;have HO229:=n5_;have HO232:=n6_;have BK206:=n7_;have BK207:=n8_;have HB:=n9_;clear n0_ n1_ n2_ n3_ n4_ n5_ n6_ n7_ n8_ n9_;(try clear hb);(try clear hb2);(try clear hk);(try clear hi);(try clear ho0);(try clear ho1);obtain ⟨Ao53,co53,eo53⟩:=Kd.V_slice HO229.out;subst eo53;have hcz54_0:w52.cell? ⟨gb207,0,none⟩ = some (.slice none 0 0):=(blk_cell BK207.out 0).trans rfl;have hcz54_1:w52.cell? ⟨gb207,1,none⟩ = some (.slice none 0 0):=(blk_cell BK207.out 1).trans rfl;have hfz54_0:=blk_frozen BK207.out 0;have hfz54_1:=blk_frozen BK207.out 1;obtain ⟨Ao55,co55,eo55⟩:=Kd.V_slice HO232.out;subst eo55))
             refine bodyPost_ret (results_cell_row rfl _ _ gb207 43 #[.slice Ao53 t227.length co53,.slice Ao55 t230.length co55] (0,0) _ rfl (by (with_reducible repeat (first|refine blk_drewN ?_ _|refine blk_drew ?_|refine blk_alloc ?_ _));refine blk_put (cs:=#[.slice Ao53 t227.length co53,.slice none 0 0]) ?_ 1 _ rfl;(with_reducible repeat (first|refine blk_drewN ?_ _|refine blk_drew ?_|refine blk_alloc ?_ _));refine blk_put (cs:=#[.slice none 0 0,.slice none 0 0]) ?_ 0 _ rfl;(with_reducible repeat (first|refine blk_drewN ?_ _|refine blk_drew ?_|refine blk_alloc ?_ _));exact BK207.out) Try.underlying43 rfl (by kernel_rfl)) rfl ?_
             exact ⟨_,_,by first|rfl|(simp [errW_none,errW_some] <;> rfl)|(simp only [← hji28,← hji31];first|rfl|(simp [errW_none,errW_some] <;> rfl))|(simp [*,errW_none,errW_some] <;> rfl),by (with_reducible repeat (first|apply Kd.V_alloc|apply Kd.V_drewN|apply Kd.V_drew));exact Kd.V_mono (Kd.V_far (p:=⟨gb207,1,none⟩) (Kd.V_far (p:=⟨gb207,0,none⟩) (Kd.V_mono HO229.out (fun k_ hk=>(⟨hk,hk.2.2⟩:_∧k_ ≠ gb207))) (fun _ hk=>hk.2) (.slice Ao53 t227.length co53)) (fun _ hk=>hk.2) (.slice Ao55 t230.length co55)) (fun _ hk=>hk.1.1),by (with_reducible repeat (first|apply Kd.V_alloc|apply Kd.V_drewN|apply Kd.V_drew));exact Kd.V_mono (Kd.V_far (p:=⟨gb207,1,none⟩) (Kd.V_far (p:=⟨gb207,0,none⟩) (Kd.V_mono HO232.out (fun k_ hk=>(⟨hk,hk.2.2⟩:_∧k_ ≠ gb207))) (fun _ hk=>hk.2) (.slice Ao53 t227.length co53)) (fun _ hk=>hk.2) (.slice Ao55 t230.length co55)) (fun _ hk=>hk.1.1),by repeat (first|(with_reducible first|exact HB.out|apply below_alloc|apply pw_below_drewN|apply below_drew1|refine below_set ?_ GE206.out|refine below_set ?_ GE207.out)|exact HB.out)⟩
            ·rw [if_neg c39] at H
             exact absurd H (by simp)
           ·rw [if_neg c37] at H
            exact absurd H (by simp)
          ·rw [if_neg c36] at H
           exact absurd H (by simp)
         ·rw [if_neg c34] at H
          have c34b0:((rdOf false l0_0 (ji28)) == (rdOf false l0_1 (ji31))) = false:=by simpa using c34
          (try (have c34b1:decide ((rdOf false l0_0 (ji28)) = (rdOf false l0_1 (ji31))) = false:=by simpa using c34))
          (try (have c34b2:((rdOf false l0_0 (ji28)) == (rdOf false l0_1 (ji31))) = false:=by simpa using c34))
          (try (have c34b3:¬ ((rdOf false l0_0 (ji28)) = (rdOf false l0_1 (ji31))):=by simpa using c34))
          clear c34
          simp only [Option.some.injEq,Prod.mk.injEq] at H
          obtain ⟨rfl,rfl⟩:=H
          have hnb56:=NB206_207.out
          have hnc56:=NB207_206.out
          have hcz57_0:wr.cell? ⟨gb206,0,none⟩ = some (.slice A0_0 l0_0.length c0_0):=(blk_cell BK206.out 0).trans rfl
          have hcz57_1:wr.cell? ⟨gb206,1,none⟩ = some (.slice A0_1 l0_1.length c0_1):=(blk_cell BK206.out 1).trans rfl
          have hfz57_0:=blk_frozen BK206.out 0
          have hfz57_1:=blk_frozen BK206.out 1
          try go_wp2
          have n0_:=Aside0.mk (Kd.V_drew HO_207000.out)
          have n1_:=Aside0.mk (Kd.V_drew HO_207001.out)
          have n2_:=Aside0.mk (blk_drew BK206.out)
          have n3_:=Aside0.mk (blk_drew BK207.out)
          have n4_:=Aside0.mk (below_drew1 HB.out)
          clear HO_207000
          clear HO_207001
          clear BK206
          clear BK207
          clear HB
          have HO_207000:=n0_
          have HO_207001:=n1_
          have BK206:=n2_
          have BK207:=n3_
          have HB:=n4_
          clear n0_ n1_ n2_ n3_ n4_
          have p208:0≤((ji28):Int):=of_decide_eq_true (by first|(with_reducible assumption)|assumption)
          have q208:(ji28) < (l0_0.length:Int):=of_decide_eq_true (by first|(with_reducible assumption)|assumption)
          obtain ⟨ad208,e208,hx208_0⟩:=Kd.at_bool (Kd.V_reads' HO_207000.out).2.2 (ji28) p208 q208
          cases e208
          replace p208:=eq_true p208
          replace q208:=eq_true q208
          have p209:0≤((ji31):Int):=of_decide_eq_true (by first|(with_reducible assumption)|assumption)
          have q209:(ji31) < (l0_1.length:Int):=of_decide_eq_true (by first|(with_reducible assumption)|assumption)
          obtain ⟨ad209,e209,hx209_0⟩:=Kd.at_bool (Kd.V_reads' HO_207001.out).2.2 (ji31) p209 q209
          cases e209
          replace p209:=eq_true p209
          replace q209:=eq_true q209
          refine start_ (n:=17) (S:=fun w'=>w'.cell? ⟨gb206,0,none⟩ = some (.slice (some ad208) l0_0.length c0_0)∧w'.cell? ⟨gb206,1,none⟩ = some (.slice (some ad209) l0_1.length c0_1)∧w'.cell? (ad208.add ((ji28)).toNat) = some (.bool (rdOf false l0_0 (ji28)))∧w'.cell? (ad209.add ((ji31)).toNat) = some (.bool (rdOf false l0_1 (ji31)))) (ds:=[]) #[false,false,false,false,false,false,false,false,false,false,false,false,false,false,false,false,false] (by kernel_rfl) rfl rfl ⟨(blk_cell BK206.out 0).trans rfl,(blk_cell BK206.out 1).trans rfl,hx208_0,hx209_0⟩ (fun hHeld=>?_);refine with_tabW spec_l1Less.tab13 spec_l1Less.bits13 (fun HT_ HW_=>?_)
          generalize wr.drew = w58 at HO_207000 HO_207001 BK206 BK207 HB hx208_0 hx209_0 hHeld ⊢
          refine pure_ (i:=0) (N:=some 55) (v:=?_) (a':=?_) #[true,false,false,false,false,false,false,false,false,false,false,false,false,false,false,false,false] rfl rfl (any_of HT_.out (by kernel_rfl)) (fun _ _ _ h=>h) (Or.inl ⟨by rfl,?_⟩) ?_ ?_
          rotate_left
          ·intro w'
           go_simp
           with_reducible rfl
          rotate_left
          ·simp only [Act.put,List.setIfInBounds_toArray,List.set_cons_zero,List.set_cons_succ,i64_w,i32_w]
           rfl
          refine pure_ (i:=1) (N:=some 56) (v:=?_) (a':=?_) #[true,true,false,false,false,false,false,false,false,false,false,false,false,false,false,false,false] rfl rfl (any_of HT_.out (by kernel_rfl)) (fun _ _ _ h=>h) (Or.inl ⟨by rfl,?_⟩) ?_ ?_
          rotate_left
          ·intro w'
           go_simp
           with_reducible rfl
          rotate_left
          ·simp only [Act.put,List.setIfInBounds_toArray,List.set_cons_zero,List.set_cons_succ,i64_w,i32_w]
           rfl
          refine pure_ (i:=2) (N:=some 57) (v:=?_) (a':=?_) #[true,true,true,false,false,false,false,false,false,false,false,false,false,false,false,false,false] rfl rfl (any_of HT_.out (by kernel_rfl)) (fun _ _ _ h=>h) (Or.inl ⟨by rfl,?_⟩) ?_ ?_
          rotate_left
          ·intro w'
           go_simp
           with_reducible rfl
          rotate_left
          ·simp only [Act.put,List.setIfInBounds_toArray,List.set_cons_zero,List.set_cons_succ,i64_w,i32_w]
           rfl
          refine pure_ (i:=3) (N:=some 58) (v:=?_) (a':=?_) #[true,true,true,true,false,false,false,false,false,false,false,false,false,false,false,false,false] rfl rfl (any_of HT_.out (by kernel_rfl)) (fun _ _ _ h=>h) (Or.inl ⟨by rfl,?_⟩) ?_ ?_
          rotate_left
          ·intro w'
           go_simp
           with_reducible rfl
          rotate_left
          ·simp only [Act.put,List.setIfInBounds_toArray,List.set_cons_zero,List.set_cons_succ,i64_w,i32_w]
           rfl
          refine pure_ (i:=5) (N:=some 60) (v:=?_) (a':=?_) #[true,true,true,true,false,true,false,false,false,false,false,false,false,false,false,false,false] rfl rfl (any_of HT_.out (by kernel_rfl)) (fun _ _ _ h=>h) (Or.inl ⟨by rfl,?_⟩) ?_ ?_
          rotate_left
          ·intro w'
           go_simp
           with_reducible rfl
          rotate_left
          ·simp only [Act.put,List.setIfInBounds_toArray,List.set_cons_zero,List.set_cons_succ,i64_w,i32_w]
           rfl
          refine pure_ (i:=6) (N:=some 61) (v:=?_) (a':=?_) #[true,true,true,true,false,true,true,false,false,false,false,false,false,false,false,false,false] rfl rfl (any_of HT_.out (by kernel_rfl)) (fun _ _ _ h=>h) (Or.inl ⟨by rfl,?_⟩) ?_ ?_
          rotate_left
          ·intro w'
           go_simp
           with_reducible rfl
          rotate_left
          ·simp only [Act.put,List.setIfInBounds_toArray,List.set_cons_zero,List.set_cons_succ,i64_w,i32_w]
           rfl
          refine pure_ (i:=9) (N:=some 64) (v:=?_) (a':=?_) #[true,true,true,true,false,true,true,false,false,true,false,false,false,false,false,false,false] rfl rfl (any_of HT_.out (by kernel_rfl)) (fun _ _ _ h=>h) (Or.inl ⟨by rfl,?_⟩) ?_ ?_
          rotate_left
          ·intro w'
           go_simp
           with_reducible rfl
          rotate_left
          ·simp only [Act.put,List.setIfInBounds_toArray,List.set_cons_zero,List.set_cons_succ,i64_w,i32_w]
           rfl
          refine pure_ (i:=11) (N:=some 66) (v:=?_) (a':=?_) #[true,true,true,true,false,true,true,false,false,true,false,true,false,false,false,false,false] rfl rfl (any_of HT_.out (by kernel_rfl)) (fun _ _ _ h=>h) (Or.inl ⟨by rfl,?_⟩) ?_ ?_
          rotate_left
          ·intro w'
           go_simp
           with_reducible rfl
          rotate_left
          ·simp only [Act.put,List.setIfInBounds_toArray,List.set_cons_zero,List.set_cons_succ,i64_w,i32_w]
           rfl
          refine pure_ (i:=12) (N:=some 67) (v:=?_) (a':=?_) #[true,true,true,true,false,true,true,false,false,true,false,true,true,false,false,false,false] rfl rfl (any_of HT_.out (by kernel_rfl)) (fun _ _ _ h=>h) (Or.inl ⟨by rfl,?_⟩) ?_ ?_
          rotate_left
          ·intro w'
           go_simp
           with_reducible rfl
          rotate_left
          ·simp only [Act.put,List.setIfInBounds_toArray,List.set_cons_zero,List.set_cons_succ,i64_w,i32_w]
           rfl
          refine take_ (i:=4) (N:=some 59) (v:=?_) (a':=?_) #[true,true,true,true,true,true,true,false,false,true,false,true,true,false,false,false,false] rfl rfl (take_ofW HT_.out HW_.out (by kernel_rfl)) (fun _ _ _ h=>h) (Or.inl ⟨by rfl,?_⟩) hHeld ?_ ?_
          rotate_left
          ·rintro w' ⟨s0,s1,s2,s3⟩
           go_simp
           with_reducible rfl
          rotate_left
          ·simp only [Act.put,List.setIfInBounds_toArray,List.set_cons_zero,List.set_cons_succ,i64_w,i32_w]
           rfl
          refine pure_ (i:=7) (N:=some 62) (v:=?_) (a':=?_) #[true,true,true,true,true,true,true,true,false,true,false,true,true,false,false,false,false] rfl rfl (any_of HT_.out (by kernel_rfl)) (fun _ _ _ h=>h) (Or.inl ⟨by rfl,?_⟩) ?_ ?_
          rotate_left
          ·intro w'
           go_simp
           with_reducible rfl
          rotate_left
          ·simp only [Act.put,List.setIfInBounds_toArray,List.set_cons_zero,List.set_cons_succ,i64_w,i32_w]
           rfl
          refine take_ (i:=8) (N:=some 63) (v:=?_) (a':=?_) #[true,true,true,true,true,true,true,true,true,true,false,true,true,false,false,false,false] rfl rfl (take_ofW HT_.out HW_.out (by kernel_rfl)) (fun _ _ _ h=>h) (Or.inl ⟨by rfl,?_⟩) hHeld ?_ ?_
          rotate_left
          ·rintro w' ⟨s0,s1,s2,s3⟩
           go_simp
           with_reducible rfl
          rotate_left
          ·simp only [Act.put,List.setIfInBounds_toArray,List.set_cons_zero,List.set_cons_succ,i64_w,i32_w]
           rfl
          refine take_ (i:=10) (N:=some 65) (v:=?_) (a':=?_) #[true,true,true,true,true,true,true,true,true,true,true,true,true,false,false,false,false] rfl rfl (take_ofW HT_.out HW_.out (by kernel_rfl)) (fun _ _ _ h=>h) (Or.inl ⟨by rfl,?_⟩) hHeld ?_ ?_
          rotate_left
          ·rintro w' ⟨s0,s1,s2,s3⟩
           go_simp
           with_reducible rfl
          rotate_left
          ·simp only [Act.put,List.setIfInBounds_toArray,List.set_cons_zero,List.set_cons_succ,i64_w,i32_w]
           rfl
          refine pure_ (i:=13) (N:=some 68) (v:=?_) (a':=?_) #[true,true,true,true,true,true,true,true,true,true,true,true,true,true,false,false,false] rfl rfl (any_of HT_.out (by kernel_rfl)) (fun _ _ _ h=>h) (Or.inl ⟨by rfl,?_⟩) ?_ ?_
          rotate_left
          ·intro w'
           go_simp
           with_reducible rfl
          rotate_left
          ·simp only [Act.put,List.setIfInBounds_toArray,List.set_cons_zero,List.set_cons_succ,i64_w,i32_w]
           rfl
          refine take_ (i:=14) (N:=some 69) (v:=?_) (a':=?_) #[true,true,true,true,true,true,true,true,true,true,true,true,true,true,true,false,false] rfl rfl (take_ofW HT_.out HW_.out (by kernel_rfl)) (fun _ _ _ h=>h) (Or.inl ⟨by rfl,?_⟩) hHeld ?_ ?_
          rotate_left
          ·rintro w' ⟨s0,s1,s2,s3⟩
           go_simp
           with_reducible rfl
          rotate_left
          ·simp only [Act.put,List.setIfInBounds_toArray,List.set_cons_zero,List.set_cons_succ,i64_w,i32_w]
           rfl
          refine pure_ (i:=15) (N:=some 70) (v:=?_) (a':=?_) #[true,true,true,true,true,true,true,true,true,true,true,true,true,true,true,true,false] rfl rfl (any_of HT_.out (by kernel_rfl)) (fun _ _ _ h=>h) (Or.inl ⟨by rfl,?_⟩) ?_ ?_
          rotate_left
          ·intro w'
           go_simp
           with_reducible rfl
          rotate_left
          ·simp only [Act.put,List.setIfInBounds_toArray,List.set_cons_zero,List.set_cons_succ,i64_w,i32_w]
           rfl
          refine pure_ (i:=16) (N:=some 71) (v:=?_) (a':=?_) #[true,true,true,true,true,true,true,true,true,true,true,true,true,true,true,true,true] rfl rfl (any_of HT_.out (by kernel_rfl)) (fun _ _ _ h=>h) (Or.inl ⟨by rfl,?_⟩) ?_ ?_
          rotate_left
          ·intro w'
           go_simp
           with_reducible rfl
          rotate_left
          ·simp only [Act.put,List.setIfInBounds_toArray,List.set_cons_zero,List.set_cons_succ,i64_w,i32_w]
           rfl
          refine done_ (done_of HT_.out (by kernel_rfl)) ?_
          have hcz59_0:w58.cell? ⟨gb206,0,none⟩ = some (.slice (some ad208) l0_0.length c0_0):=(blk_cell BK206.out 0).trans rfl
          have hcz59_1:w58.cell? ⟨gb206,1,none⟩ = some (.slice (some ad209) l0_1.length c0_1):=(blk_cell BK206.out 1).trans rfl
          have hfz59_0:=blk_frozen BK206.out 0
          have hfz59_1:=blk_frozen BK206.out 1
          have hcz60_0:w58.cell? ⟨gb207,0,none⟩ = some (.slice none 0 0):=(blk_cell BK207.out 0).trans rfl
          have hcz60_1:w58.cell? ⟨gb207,1,none⟩ = some (.slice none 0 0):=(blk_cell BK207.out 1).trans rfl
          have hfz60_0:=blk_frozen BK207.out 0
          have hfz60_1:=blk_frozen BK207.out 1
          try go_wp2
          refine bodyPost_ret (results_cell_row rfl _ _ gb207 43 #[.slice (some ad208) l0_0.length c0_0,.slice (some ad209) l0_1.length c0_1] (0,0) _ rfl (by (with_reducible repeat (first|refine blk_drewN ?_ _|refine blk_drew ?_|refine blk_alloc ?_ _));refine blk_put (cs:=#[.slice (some ad208) l0_0.length c0_0,.slice none 0 0]) ?_ 1 _ rfl;(with_reducible repeat (first|refine blk_drewN ?_ _|refine blk_drew ?_|refine blk_alloc ?_ _));refine blk_put (cs:=#[.slice none 0 0,.slice none 0 0]) ?_ 0 _ rfl;(with_reducible repeat (first|refine blk_drewN ?_ _|refine blk_drew ?_|refine blk_alloc ?_ _));exact BK207.out) Try.underlying43 rfl (by kernel_rfl)) rfl ?_
          exact ⟨_,_,by first|rfl|(simp [errW_none,errW_some] <;> rfl)|(simp only [← hji28,← hji31];first|rfl|(simp [errW_none,errW_some] <;> rfl))|(simp [*,errW_none,errW_some] <;> rfl),by (with_reducible repeat (first|apply Kd.V_alloc|apply Kd.V_drewN|apply Kd.V_drew));exact Kd.V_mono (Kd.V_far (p:=⟨gb207,1,none⟩) (Kd.V_far (p:=⟨gb207,0,none⟩) (Kd.V_mono HO_207000.out (fun k_ hk=>(⟨hk,hk.2.2⟩:_∧k_ ≠ gb207))) (fun _ hk=>hk.2) (.slice (some ad208) l0_0.length c0_0)) (fun _ hk=>hk.2) (.slice (some ad209) l0_1.length c0_1)) (fun _ hk=>hk.1.1),by (with_reducible repeat (first|apply Kd.V_alloc|apply Kd.V_drewN|apply Kd.V_drew));exact Kd.V_mono (Kd.V_far (p:=⟨gb207,1,none⟩) (Kd.V_far (p:=⟨gb207,0,none⟩) (Kd.V_mono HO_207001.out (fun k_ hk=>(⟨hk,hk.2.2⟩:_∧k_ ≠ gb207))) (fun _ hk=>hk.2) (.slice (some ad208) l0_0.length c0_0)) (fun _ hk=>hk.2) (.slice (some ad209) l0_1.length c0_1)) (fun _ hk=>hk.1.1),by repeat (first|(with_reducible first|exact HB.out|apply below_alloc|apply pw_below_drewN|apply below_drew1|refine below_set ?_ GE206.out|refine below_set ?_ GE207.out)|exact HB.out)⟩
        ·rw [if_neg c33] at H
         exact absurd H (by simp)
       ·rw [if_neg c32] at H
        exact absurd H (by simp)
      ·rw [if_neg c30] at H
       exact absurd H (by simp)
     ·rw [if_neg c29] at H
      exact absurd H (by simp)
    ·rw [if_neg c27] at H
     have c27b0:decide (0 < (l0_0.length:Int)) = false:=decide_eq_false c27
     have c27b1:decide (0 < l0_0.length) = false:=decide_eq_false (by omega)
     clear c27
     simp only [Option.some.injEq,Prod.mk.injEq] at H
     obtain ⟨rfl,rfl⟩:=H
     have hnb61:=NB206_207.out
     have hnc61:=NB207_206.out
     have hcz62_0:wr.cell? ⟨gb206,0,none⟩ = some (.slice A0_0 l0_0.length c0_0):=(blk_cell BK206.out 0).trans rfl
     have hcz62_1:wr.cell? ⟨gb206,1,none⟩ = some (.slice A0_1 l0_1.length c0_1):=(blk_cell BK206.out 1).trans rfl
     have hfz62_0:=blk_frozen BK206.out 0
     have hfz62_1:=blk_frozen BK206.out 1
     try go_wp2
     have n0_:=Aside0.mk (Kd.V_drew HO_207000.out)
     have n1_:=Aside0.mk (Kd.V_drew HO_207001.out)
     have n2_:=Aside0.mk (blk_drew BK206.out)
     have n3_:=Aside0.mk (blk_drew BK207.out)
     have n4_:=Aside0.mk (below_drew1 HB.out)
     clear HO_207000
     clear HO_207001
     clear BK206
     clear BK207
     clear HB
     have HO_207000:=n0_
     have HO_207001:=n1_
     have BK206:=n2_
     have BK207:=n3_
     have HB:=n4_
     clear n0_ n1_ n2_ n3_ n4_
     refine start_ (n:=17) (S:=fun w'=>True) (ds:=[]) #[false,false,false,false,false,false,false,false,false,false,false,false,false,false,false,false,false] (by kernel_rfl) rfl rfl trivial (fun hHeld=>?_);refine with_tabW spec_l1Less.tab13 spec_l1Less.bits13 (fun HT_ HW_=>?_)
     generalize wr.drew = w63 at HO_207000 HO_207001 BK206 BK207 HB hHeld ⊢
     refine pure_ (i:=0) (N:=some 55) (v:=?_) (a':=?_) #[true,false,false,false,false,false,false,false,false,false,false,false,false,false,false,false,false] rfl rfl (any_of HT_.out (by kernel_rfl)) (fun _ _ _ h=>h) (Or.inl ⟨by rfl,?_⟩) ?_ ?_
     rotate_left
     ·intro w'
      go_simp
      with_reducible rfl
     rotate_left
     ·simp only [Act.put,List.setIfInBounds_toArray,List.set_cons_zero,List.set_cons_succ,i64_w,i32_w]
      rfl
     refine pure_ (i:=1) (N:=some 56) (v:=?_) (a':=?_) #[true,true,false,false,false,false,false,false,false,false,false,false,false,false,false,false,false] rfl rfl (any_of HT_.out (by kernel_rfl)) (fun _ _ _ h=>h) (Or.inl ⟨by rfl,?_⟩) ?_ ?_
     rotate_left
     ·intro w'
      go_simp
      with_reducible rfl
     rotate_left
     ·simp only [Act.put,List.setIfInBounds_toArray,List.set_cons_zero,List.set_cons_succ,i64_w,i32_w]
      rfl
     refine pure_ (i:=2) (N:=some 57) (v:=?_) (a':=?_) #[true,true,true,false,false,false,false,false,false,false,false,false,false,false,false,false,false] rfl rfl (any_of HT_.out (by kernel_rfl)) (fun _ _ _ h=>h) (Or.inl ⟨by rfl,?_⟩) ?_ ?_
     rotate_left
     ·intro w'
      go_simp
      with_reducible rfl
     rotate_left
     ·simp only [Act.put,List.setIfInBounds_toArray,List.set_cons_zero,List.set_cons_succ,i64_w,i32_w]
      rfl
     refine pure_ (i:=3) (N:=some 58) (v:=undef) (a':=?_) #[true,true,true,true,false,false,false,false,false,false,false,false,false,false,false,false,false] rfl rfl (any_of HT_.out (by kernel_rfl)) (fun _ _ _ h=>h) (Or.inr ⟨by rfl,rfl⟩) ?_ ?_
     rotate_left
     ·simp only [Act.put,List.setIfInBounds_toArray,List.set_cons_zero,List.set_cons_succ,i64_w,i32_w]
      rfl
     refine pure_ (i:=4) (N:=some 59) (v:=undef) (a':=?_) #[true,true,true,true,true,false,false,false,false,false,false,false,false,false,false,false,false] rfl rfl (any_of HT_.out (by kernel_rfl)) (fun _ _ _ h=>h) (Or.inr ⟨by rfl,rfl⟩) ?_ ?_
     rotate_left
     ·simp only [Act.put,List.setIfInBounds_toArray,List.set_cons_zero,List.set_cons_succ,i64_w,i32_w]
      rfl
     refine pure_ (i:=5) (N:=some 60) (v:=undef) (a':=?_) #[true,true,true,true,true,true,false,false,false,false,false,false,false,false,false,false,false] rfl rfl (any_of HT_.out (by kernel_rfl)) (fun _ _ _ h=>h) (Or.inr ⟨by rfl,rfl⟩) ?_ ?_
     rotate_left
     ·simp only [Act.put,List.setIfInBounds_toArray,List.set_cons_zero,List.set_cons_succ,i64_w,i32_w]
      rfl
     refine pure_ (i:=6) (N:=some 61) (v:=undef) (a':=?_) #[true,true,true,true,true,true,true,false,false,false,false,false,false,false,false,false,false] rfl rfl (any_of HT_.out (by kernel_rfl)) (fun _ _ _ h=>h) (Or.inr ⟨by rfl,rfl⟩) ?_ ?_
     rotate_left
     ·simp only [Act.put,List.setIfInBounds_toArray,List.set_cons_zero,List.set_cons_succ,i64_w,i32_w]
      rfl
     refine pure_ (i:=7) (N:=some 62) (v:=undef) (a':=?_) #[true,true,true,true,true,true,true,true,false,false,false,false,false,false,false,false,false] rfl rfl (any_of HT_.out (by kernel_rfl)) (fun _ _ _ h=>h) (Or.inr ⟨by rfl,rfl⟩) ?_ ?_
     rotate_left
     ·simp only [Act.put,List.setIfInBounds_toArray,List.set_cons_zero,List.set_cons_succ,i64_w,i32_w]
      rfl
     refine pure_ (i:=8) (N:=some 63) (v:=undef) (a':=?_) #[true,true,true,true,true,true,true,true,true,false,false,false,false,false,false,false,false] rfl rfl (any_of HT_.out (by kernel_rfl)) (fun _ _ _ h=>h) (Or.inr ⟨by rfl,rfl⟩) ?_ ?_
     rotate_left
     ·simp only [Act.put,List.setIfInBounds_toArray,List.set_cons_zero,List.set_cons_succ,i64_w,i32_w]
      rfl
     refine pure_ (i:=9) (N:=some 64) (v:=undef) (a':=?_) #[true,true,true,true,true,true,true,true,true,true,false,false,false,false,false,false,false] rfl rfl (any_of HT_.out (by kernel_rfl)) (fun _ _ _ h=>h) (Or.inr ⟨by rfl,rfl⟩) ?_ ?_
     rotate_left
     ·simp only [Act.put,List.setIfInBounds_toArray,List.set_cons_zero,List.set_cons_succ,i64_w,i32_w]
      rfl
     refine pure_ (i:=10) (N:=some 65) (v:=undef) (a':=?_) #[true,true,true,true,true,true,true,true,true,true,true,false,false,false,false,false,false] rfl rfl (any_of HT_.out (by kernel_rfl)) (fun _ _ _ h=>h) (Or.inr ⟨by rfl,rfl⟩) ?_ ?_
     rotate_left
     ·simp only [Act.put,List.setIfInBounds_toArray,List.set_cons_zero,List.set_cons_succ,i64_w,i32_w]
      rfl
     refine pure_ (i:=11) (N:=some 66) (v:=undef) (a':=?_) #[true,true,true,true,true,true,true,true,true,true,true,true,false,false,false,false,false] rfl rfl (any_of HT_.out (by kernel_rfl)) (fun _ _ _ h=>h) (Or.inr ⟨by rfl,rfl⟩) ?_ ?_
     rotate_left
     ·simp only [Act.put,List.setIfInBounds_toArray,List.set_cons_zero,List.set_cons_succ,i64_w,i32_w]
      rfl
     refine pure_ (i:=12) (N:=some 67) (v:=undef) (a':=?_) #[true,true,true,true,true,true,true,true,true,true,true,true,true,false,false,false,false] rfl rfl (any_of HT_.out (by kernel_rfl)) (fun _ _ _ h=>h) (Or.inr ⟨by rfl,rfl⟩) ?_ ?_
     rotate_left
     ·simp only [Act.put,List.setIfInBounds_toArray,List.set_cons_zero,List.set_cons_succ,i64_w,i32_w]
      rfl
     refine pure_ (i:=13) (N:=some 68) (v:=undef) (a':=?_) #[true,true,true,true,true,true,true,true,true,true,true,true,true,true,false,false,false] rfl rfl (any_of HT_.out (by kernel_rfl)) (fun _ _ _ h=>h) (Or.inr ⟨by rfl,rfl⟩) ?_ ?_
     rotate_left
     ·simp only [Act.put,List.setIfInBounds_toArray,List.set_cons_zero,List.set_cons_succ,i64_w,i32_w]
      rfl
     refine pure_ (i:=14) (N:=some 69) (v:=undef) (a':=?_) #[true,true,true,true,true,true,true,true,true,true,true,true,true,true,true,false,false] rfl rfl (any_of HT_.out (by kernel_rfl)) (fun _ _ _ h=>h) (Or.inr ⟨by rfl,rfl⟩) ?_ ?_
     rotate_left
     ·simp only [Act.put,List.setIfInBounds_toArray,List.set_cons_zero,List.set_cons_succ,i64_w,i32_w]
      rfl
     refine pure_ (i:=15) (N:=some 70) (v:=undef) (a':=?_) #[true,true,true,true,true,true,true,true,true,true,true,true,true,true,true,true,false] rfl rfl (any_of HT_.out (by kernel_rfl)) (fun _ _ _ h=>h) (Or.inr ⟨by rfl,rfl⟩) ?_ ?_
     rotate_left
     ·simp only [Act.put,List.setIfInBounds_toArray,List.set_cons_zero,List.set_cons_succ,i64_w,i32_w]
      rfl
     refine pure_ (i:=16) (N:=some 71) (v:=?_) (a':=?_) #[true,true,true,true,true,true,true,true,true,true,true,true,true,true,true,true,true] rfl rfl (any_of HT_.out (by kernel_rfl)) (fun _ _ _ h=>h) (Or.inl ⟨by rfl,?_⟩) ?_ ?_
     rotate_left
     ·intro w'
      go_simp
      with_reducible rfl
     rotate_left
     ·simp only [Act.put,List.setIfInBounds_toArray,List.set_cons_zero,List.set_cons_succ,i64_w,i32_w]
      rfl
     refine done_ (done_of HT_.out (by kernel_rfl)) ?_
     have hcz64_0:w63.cell? ⟨gb206,0,none⟩ = some (.slice A0_0 l0_0.length c0_0):=(blk_cell BK206.out 0).trans rfl
     have hcz64_1:w63.cell? ⟨gb206,1,none⟩ = some (.slice A0_1 l0_1.length c0_1):=(blk_cell BK206.out 1).trans rfl
     have hfz64_0:=blk_frozen BK206.out 0
     have hfz64_1:=blk_frozen BK206.out 1
     have hcz65_0:w63.cell? ⟨gb207,0,none⟩ = some (.slice none 0 0):=(blk_cell BK207.out 0).trans rfl
     have hcz65_1:w63.cell? ⟨gb207,1,none⟩ = some (.slice none 0 0):=(blk_cell BK207.out 1).trans rfl
     have hfz65_0:=blk_frozen BK207.out 0
     have hfz65_1:=blk_frozen BK207.out 1
     try go_wp2
     refine bodyPost_ret (results_cell_row rfl _ _ gb207 43 #[.slice A0_0 l0_0.length c0_0,.slice A0_1 l0_1.length c0_1] (0,0) _ rfl (by (with_reducible repeat (first|refine blk_drewN ?_ _|refine blk_drew ?_|refine blk_alloc ?_ _));refine blk_put (cs:=#[.slice A0_0 l0_0.length c0_0,.slice none 0 0]) ?_ 1 _ rfl;(with_reducible repeat (first|refine blk_drewN ?_ _|refine blk_drew ?_|refine blk_alloc ?_ _));refine blk_put (cs:=#[.slice none 0 0,.slice none 0 0]) ?_ 0 _ rfl;(with_reducible repeat (first|refine blk_drewN ?_ _|refine blk_drew ?_|refine blk_alloc ?_ _));exact BK207.out) Try.underlying43 rfl (by kernel_rfl)) rfl ?_
     exact ⟨_,_,by first|rfl|(simp [errW_none,errW_some] <;> rfl)|(simp [*,errW_none,errW_some] <;> rfl)|(simp [errW_none,errW_some];exact ⟨rfl,rfl⟩),by (with_reducible repeat (first|apply Kd.V_alloc|apply Kd.V_drewN|apply Kd.V_drew));exact Kd.V_mono (Kd.V_far (p:=⟨gb207,1,none⟩) (Kd.V_far (p:=⟨gb207,0,none⟩) (Kd.V_mono HO_207000.out (fun k_ hk=>(⟨hk,hk.2.2⟩:_∧k_ ≠ gb207))) (fun _ hk=>hk.2) (.slice A0_0 l0_0.length c0_0)) (fun _ hk=>hk.2) (.slice A0_1 l0_1.length c0_1)) (fun _ hk=>hk.1.1),by (with_reducible repeat (first|apply Kd.V_alloc|apply Kd.V_drewN|apply Kd.V_drew));exact Kd.V_mono (Kd.V_far (p:=⟨gb207,1,none⟩) (Kd.V_far (p:=⟨gb207,0,none⟩) (Kd.V_mono HO_207001.out (fun k_ hk=>(⟨hk,hk.2.2⟩:_∧k_ ≠ gb207))) (fun _ hk=>hk.2) (.slice A0_0 l0_0.length c0_0)) (fun _ hk=>hk.2) (.slice A0_1 l0_1.length c0_1)) (fun _ hk=>hk.1.1),by repeat (first|(with_reducible first|exact HB.out|apply below_alloc|apply pw_below_drewN|apply below_drew1|refine below_set ?_ GE206.out|refine below_set ?_ GE207.out)|exact HB.out)⟩

end Go.Proofs.Ytmedlhoahddbmaa.P

namespace Go.Proofs.Ytmedlhoahddbmaa.P
open Go.RowKit Go.Proofs.YtmedlhoahddbmaaW.PrintWords Go.Proofs.YtmedlhoahddbmaaW.PrintLast Go.Proofs.YtmedlhoahddbmaaW.PrintMore
attribute [local go_sem] max2_int min2_int max_two min_two max_three min_three max_four min_four   -- for this text's walks alone
set_option linter.unusedVariables false
set_option linter.unusedSimpArgs false

/-! ### spec_l1Write: function 29 -/
mutual
def spec_l1Write.l0:Nat → List Int → Int → List Bool → List Bool → Option (ByteArray)
 | 0,_,_,_,_=>none
 | k + 1,x3,x4,x247000,x247001=>if x4 < (x247000.length:Int) then (if 0≤x4 then ((spec_l1Bit.f (rdOf false x247000 x4)).bind fun t251=>(if 0≤t251 then (if t251 < 2 then (if x3.length < 140737488355328 then (spec_l1Write.l0 k (x3 ++ [bt (⟨#[48,49]⟩:ByteArray) t251]) (wrap64 (x4 + 1)) x247000 x247001) else (none)) else (none)) else (none))) else (none)) else (if x3.length < 140737488355328 then (spec_l1Write.l1 k (x3 ++ [40]) 0 x247000 x247001) else (none))
def spec_l1Write.l1:Nat → List Int → Int → List Bool → List Bool → Option (ByteArray)
 | 0,_,_,_,_=>none
 | k + 1,x3,x5,x247000,x247001=>if x5 < (x247001.length:Int) then (if 0≤x5 then ((spec_l1Bit.f (rdOf false x247001 x5)).bind fun t259=>(if 0≤t259 then (if t259 < 2 then (if x3.length < 140737488355328 then (spec_l1Write.l1 k (x3 ++ [bt (⟨#[48,49]⟩:ByteArray) t259]) (wrap64 (x5 + 1)) x247000 x247001) else (none)) else (none)) else (none))) else (none)) else (if x3.length < 140737488355328 then (some (strOfNums (x3 ++ [41]))) else (none))
end
def spec_l1Write.f (k:Nat) (l0_0:List Bool) (l0_1:List Bool):Option (ByteArray):=spec_l1Write.l0 k (([]:List Int)) 0 l0_0 l0_1
theorem spec_l1Write.mono_l:∀ k,(∀ y0 y1 y2 y3,LeO (spec_l1Write.l0 k y0 y1 y2 y3) (spec_l1Write.l0 (k + 1) y0 y1 y2 y3))∧(∀ y0 y1 y2 y3,LeO (spec_l1Write.l1 k y0 y1 y2 y3) (spec_l1Write.l1 (k + 1) y0 y1 y2 y3))
 | 0=>⟨fun _ _ _ _ r h=>by simp [spec_l1Write.l0] at h,fun _ _ _ _ r h=>by simp [spec_l1Write.l1] at h⟩
 | k + 1=>by
  obtain ⟨ih0,ih1⟩:=spec_l1Write.mono_l k
  refine ⟨?_,?_⟩
  ·intro y0 y1 y2 y3
   unfold spec_l1Write.l0
   repeat' first
   | (with_reducible exact ih0 _ _ _ _)
   | (with_reducible exact ih1 _ _ _ _)
   | (with_reducible exact LeO.refl _)
   | (with_reducible exact LeO.none _)
   | (with_reducible refine LeO.ite ?_ ?_)
   | (with_reducible refine LeO.bind ?_ (fun _=>?_))
   | exact ih0 _ _ _ _
   | exact ih1 _ _ _ _
   | exact LeO.none _
   | refine LeO.ite ?_ ?_
   | refine LeO.bind ?_ (fun _=>?_)
  ·intro y0 y1 y2 y3
   unfold spec_l1Write.l1
   repeat' first
   | (with_reducible exact ih0 _ _ _ _)
   | (with_reducible exact ih1 _ _ _ _)
   | (with_reducible exact LeO.refl _)
   | (with_reducible exact LeO.none _)
   | (with_reducible refine LeO.ite ?_ ?_)
   | (with_reducible refine LeO.bind ?_ (fun _=>?_))
   | exact ih0 _ _ _ _
   | exact ih1 _ _ _ _
   | exact LeO.none _
   | refine LeO.ite ?_ ?_
   | refine LeO.bind ?_ (fun _=>?_)
theorem spec_l1Write.mono:∀ a0 a1 k,LeO (spec_l1Write.f k a0 a1) (spec_l1Write.f (k + 1) a0 a1):=by
 intro a0 a1 k
 obtain ⟨ih0,ih1⟩:=spec_l1Write.mono_l k
 unfold spec_l1Write.f
 repeat' first
   | (with_reducible exact ih0 _ _ _ _)
   | (with_reducible exact ih1 _ _ _ _)
   | (with_reducible exact LeO.refl _)
   | (with_reducible exact LeO.none _)
   | (with_reducible refine LeO.ite ?_ ?_)
   | (with_reducible refine LeO.bind ?_ (fun _=>?_))
   | exact ih0 _ _ _ _
   | exact ih1 _ _ _ _
   | exact LeO.none _
   | refine LeO.ite ?_ ?_
   | refine LeO.bind ?_ (fun _=>?_)
set_option maxHeartbeats 8000000 in
set_option maxRecDepth 100000 in
theorem spec_l1Write.calls (k:Nat) (A0_0:Option Addr) (c0_0:Nat) (l0_0:List Bool) (A0_1:Option Addr) (c0_1:Nat) (l0_1:List Bool) (r:ByteArray) (w:World) (hr0_0:Kd.C Kd.bool w A0_0 l0_0.length l0_0) (hc0_0:l0_0.length≤c0_0) (hr0_1:Kd.C Kd.bool w A0_1 l0_1.length l0_1) (hc0_1:l0_1.length≤c0_1) (h:spec_l1Write.f k l0_0 l0_1 = some r) :
  Calls Try.prog 29 #[.agg #[.slice A0_0 l0_0.length c0_0,.slice A0_1 l0_1.length c0_1]] w fun e w'=>e = .returned (.string r)∧Below w.heap.size w w':=by
 have hu43:=Try.underlying43
 have HR0_0:=Aside0.mk hr0_0
 have HC0_0:=Aside0.mk hc0_0
 clear hr0_0 hc0_0
 have HR0_1:=Aside0.mk hr0_1
 have HC0_1:=Aside0.mk hc0_1
 clear hr0_1 hc0_1
 have HB:=Aside0.mk (Below.refl w.heap.size w)
 have H:(spec_l1Write.l0 k (([]:List Int)) 0 l0_0 l0_1) = some r:=h
 clear h
 obtain ⟨y247,hy247⟩:∃ y_:List Int,y_ = (([]:List Int)):=⟨_,rfl⟩
 replace H:(spec_l1Write.l0 k y247 0 l0_0 l0_1) = some r:=by first|(rw [hy247];with_reducible exact H)|(have H2_:=(Option.bind_some _ _).symm.trans H;rw [hy247];with_reducible exact H2_)|(have H2_:=(Option.bind_some _ _).symm.trans H;with_reducible exact H2_)|with_reducible exact H|(rw [hy247];exact H)|exact H
 have Ny247:=Aside0.mk hy247
 clear hy247
 have H':=Aside0.mk H
 clear H
 go_enter Try.func29,Try.ntmps29
 go_wp2_with (first|((with_reducible refine gate_dst (N:=1) rfl ?_);refine box_event ?hg (N:=1) ?hd (cs:=#[.slice A0_0 l0_0.length c0_0,.slice A0_1 l0_1.length c0_1]) (t:=43) ?hr ?_;(case hd=>rfl);(case hg=>rfl);(case hr=>first|(go_simp;done)|(go_simp;rfl));intro gb246 hg w2 hbox hb;have n0_:=Aside0.mk (below_step (by repeat (first|(with_reducible first|exact HB.out|apply below_alloc|apply pw_below_drewN|apply below_drew1)|exact HB.out)) hb);have n1_:=Aside0.mk (hbox);have n2_:=Aside0.mk ((by rw [hg];exact (below_size (by repeat (first|(with_reducible first|exact HB.out|apply below_alloc|apply pw_below_drewN|apply below_drew1)|exact HB.out))):w.heap.size≤gb246));have n3_:=Aside0.mk ((by rw [hg];exact (below_size (by repeat (first|(with_reducible first|exact HB.out|apply below_alloc|apply pw_below_drewN|apply below_drew1)|exact HB.out))):w.heap.size≤gb246));clear HB;have HB:=n0_;have BK246:=n1_;have GW246:=n2_;have GE246:=n3_;clear n0_ n1_ n2_ n3_;clear hb hbox hg)|((with_reducible refine gate_dst (N:=6) rfl ?_);refine Kd.R_lit (Kd.int .u8) _ 5 ?hg (N:=6) ?hd (xs:=([]:List Int)) (inner:=[]) (ok:=fun _=>True) (okp:=fun _=>True) ?hr ?hp (fun _ hk=>hk) trivial (Below.refl _ _) (Nat.le_refl _) (by simp) ?_;(case hd=>rfl);(case hg=>rfl);(case hr=>first|(go_simp;done)|(go_simp;rfl));(case hp=>exact (Reps.none _ _));intro v248 w3 ho4 hb hg_ hnew_;clear hg_ hnew_;(first|rw [← Ny247.out] at ho4|(simp only [Int.reduceToNat] at ho4;rw [← Ny247.out] at ho4));have n0_:=Aside0.mk (Kd.R_lower ho4 (below_size (by repeat (first|(with_reducible first|exact HB.out|apply below_alloc|apply pw_below_drewN|apply below_drew1|refine below_set ?_ GE246.out)|exact HB.out))));have n1_:=Aside0.mk (blk_below (g:=gb246) (o:=.cells #[.slice A0_0 l0_0.length c0_0,.slice A0_1 l0_1.length c0_1] 43 (0,0)) (by (with_reducible repeat (first|refine blk_drewN ?_ _|refine blk_drew ?_|refine blk_alloc ?_ _));exact BK246.out) hb);have n2_:=Aside0.mk (below_step (by repeat (first|(with_reducible first|exact HB.out|apply below_alloc|apply pw_below_drewN|apply below_drew1|refine below_set ?_ GE246.out)|exact HB.out)) hb);clear BK246;clear HB;have HO249:=n0_;have BK246:=n1_;have HB:=n2_;clear n0_ n1_ n2_;clear hb ho4))
 go_loopg [3,4] k (fun kq v3 v4 w'=>∃ (x3_1:List Int) (x4_1:Int),v4 = .int .i64 x4_1∧Aside0 (spec_l1Write.l0 kq x3_1 x4_1 l0_0 l0_1 = some r)∧Aside0 (kq≤k)∧Aside0 (Kd.R (Kd.int .u8) 5 w' w.heap.size (fun _=>True) v3 x3_1)∧Aside0 (w'.heap[gb246]? = some (.cells #[(.slice A0_0 l0_0.length c0_0),(.slice A0_1 l0_1.length c0_1)] 43 (0,0)))∧Aside0 (Below w.heap.size w w'))
 case atStart=>exact ⟨(y247),(0),(by first|rfl|(simp;done)|(simp [*];done)|(simp [Int.tmod_eq_emod_of_nonneg];done)),H',⟨Nat.le_refl _⟩,⟨by (with_reducible repeat (first|apply Kd.R_alloc|apply Kd.R_drewN|apply Kd.R_drew));exact HO249.out⟩,⟨by (with_reducible repeat (first|refine blk_drewN ?_ _|refine blk_drew ?_|refine blk_alloc ?_ _));exact BK246.out⟩,⟨by repeat (first|(with_reducible first|exact HB.out|apply below_alloc|apply pw_below_drewN|apply below_drew1|refine below_set ?_ GE246.out)|exact HB.out)⟩⟩
 case round =>
  clear H'
  try clear c2
  try clear p2
  obtain ⟨x3_1,x4_1,rfl,HA,HK1,HO_3,BK246,HB⟩:=hrel
  cases gk with
  | zero=>exact absurd HA.out (by simp [spec_l1Write.l0])
  | succ k1 =>
   have H:=HA.out
   clear HA
   simp only [spec_l1Write.l0] at H
   by_cases c5:x4_1 < (l0_0.length:Int)
   ·rw [if_pos c5] at H
    have c5b0:decide (x4_1 < (l0_0.length:Int)) = true:=decide_eq_true c5
    clear c5
    by_cases c6:0≤x4_1
    ·rw [if_pos c6] at H
     have c6b0:decide (0≤x4_1) = true:=decide_eq_true c6
     clear c6
     replace H:=Option.bind_eq_some_iff.mp H
     obtain ⟨t251,A70,H⟩:=H
     replace H:(if 0≤t251 then (if t251 < 2 then (if x3_1.length < 140737488355328 then (spec_l1Write.l0 k1 (x3_1 ++ [bt (⟨#[48,49]⟩:ByteArray) t251]) (wrap64 (x4_1 + 1)) l0_0 l0_1) else (none)) else (none)) else (none)) = some r:=H
     have A7:=Aside0.mk A70
     clear A70
     by_cases c8:0≤t251
     ·rw [if_pos c8] at H
      have c8b0:decide (0≤t251) = true:=decide_eq_true c8
      clear c8
      by_cases c9:t251 < 2
      ·rw [if_pos c9] at H
       have c9b0:decide (t251 < 2) = true:=decide_eq_true c9
       clear c9
       by_cases c11:x3_1.length < 140737488355328
       ·rw [if_pos c11] at H
        have LMc11:=Aside0.mk c11
        clear c11
        obtain ⟨y252,hy252⟩:∃ y_:List Int,y_ = (x3_1 ++ [bt (⟨#[48,49]⟩:ByteArray) t251]):=⟨_,rfl⟩
        replace H:(spec_l1Write.l0 k1 y252 (wrap64 (x4_1 + 1)) l0_0 l0_1) = some r:=by first|(rw [hy252];with_reducible exact H)|(have H2_:=(Option.bind_some _ _).symm.trans H;rw [hy252];with_reducible exact H2_)|(have H2_:=(Option.bind_some _ _).symm.trans H;with_reducible exact H2_)|with_reducible exact H|(rw [hy252];exact H)|exact H
        have Ny252:=Aside0.mk hy252
        clear hy252
        have H':=Aside0.mk H
        clear H
        have hcz12_0:wr.cell? ⟨gb246,0,none⟩ = some (.slice A0_0 l0_0.length c0_0):=(blk_cell BK246.out 0).trans rfl
        have hcz12_1:wr.cell? ⟨gb246,1,none⟩ = some (.slice A0_1 l0_1.length c0_1):=(blk_cell BK246.out 1).trans rfl
        have hfz12_0:=blk_frozen BK246.out 0
        have hfz12_1:=blk_frozen BK246.out 1
        have p250:0≤(x4_1:Int):=of_decide_eq_true (by first|(with_reducible assumption)|assumption)
        have q250:x4_1 < (l0_0.length:Int):=of_decide_eq_true (by first|(with_reducible assumption)|assumption)
        obtain ⟨ad250,e250,hx250_0⟩:=Kd.at_bool HR0_0.out x4_1 p250 q250
        cases e250
        replace hx250_0:=(HB.out.cell (World.block_lt_of_cell? w _ hx250_0)).trans hx250_0
        replace p250:=eq_true p250
        replace q250:=eq_true q250
        go_wp2_with (first|((with_reducible refine gate_callee (f:=37) rfl ?_);refine goesL_ (some 20) rfl rfl Try.func37 (by kernel_rfl) rfl #[.bool (rdOf false l0_0 x4_1)] rfl (by (try simp only [List.map_toArray,List.map_cons,List.map_nil]);first|done|rfl|(simp only [List.length_drop,List.length_take];rfl)) ?_;(with_reducible refine (spec_l1Bit.calls (rdOf false l0_0 x4_1) t251 _ A7.out).mono ?_);rintro e w' ⟨rfl,⟨nd,rfl⟩⟩;refine ⟨_,rfl,?_⟩;have p10:0≤(t251:Int):=of_decide_eq_true (by first|(with_reducible assumption)|assumption);have q10:t251 < (2:Int):=of_decide_eq_true (by first|(with_reducible assumption)|assumption);have hx10:=bt_at (⟨#[48,49]⟩:ByteArray) t251;replace p10:=eq_true p10;replace q10:=eq_true q10)|((with_reducible refine gate_builtin (b:=.append) (xs:=#[.tmp 14,.tmp 22]) rfl ?_);at_builtin;refine Kd.R_append (Kd.int .u8) (w0:=w) w.heap.size rfl (.tmp 14) (.tmp 22) 22 5 (.int .u8 0) 1 rfl Try.underlying22 info5 rfl (by decide) (by omega) u3 x3_1 (bt (⟨#[48,49]⟩:ByteArray) t251) [.int .u8 (bt (⟨#[48,49]⟩:ByteArray) t251)] (fun _=>True) (fun _=>False) rfl rfl ?aP (fun _ hk=>hk.elim) ?aF ?aO ?aB ?aS ?aL ?_;(case aP=>exact rfl);(case aB=>exact (by repeat (first|(with_reducible first|exact HB.out|apply below_alloc|apply pw_below_drewN|apply below_drew1|refine below_set ?_ GE246.out)|exact HB.out)));(case aF=>exact (fun _ _=>trivial));(case aO=>exact (by (with_reducible repeat (first|apply Kd.R_alloc|apply Kd.R_drewN|apply Kd.R_drew));exact HO_3.out));(case aS=>exact (below_size (by repeat (first|(with_reducible first|exact HB.out|apply below_alloc|apply pw_below_drewN|apply below_drew1|refine below_set ?_ GE246.out)|exact HB.out))));(case aL=>have:=LMc11.out;omega);intro v253 w13 ho hb hg hat;rw [← Ny252.out] at ho;have n0_:=Aside0.mk (blk_grown (g:=gb246) (o:=.cells #[.slice (some ad250) l0_0.length c0_0,.slice A0_1 l0_1.length c0_1] 43 (0,0)) (by (with_reducible repeat (first|refine blk_drewN ?_ _|refine blk_drew ?_|refine blk_alloc ?_ _));exact BK246.out) hg (Kd.R_ne HO_3.out BK246.out (by decide)));have n1_:=Aside0.mk (hb);have n2_:=Aside0.mk (ho);clear BK246;clear HB;clear HO_3;have BK246:=n0_;have HB:=n1_;have HO254:=n2_;clear n0_ n1_ n2_;clear ho hb hg hat))
        go_roundg k1
        case measure=>have:=HK1.out;omega
        case rel=>exact ⟨(y252),(wrap64 (x4_1 + 1)),(by first|rfl|(simp;done)|(simp [*];done)|(simp [Int.tmod_eq_emod_of_nonneg];done)),H',⟨by have:=HK1.out;omega⟩,⟨by (with_reducible repeat (first|apply Kd.R_alloc|apply Kd.R_drewN|apply Kd.R_drew));exact HO254.out⟩,⟨by (with_reducible repeat (first|refine blk_drewN ?_ _|refine blk_drew ?_|refine blk_alloc ?_ _));exact BK246.out⟩,⟨by repeat (first|(with_reducible first|exact HB.out|apply below_alloc|apply pw_below_drewN|apply below_drew1|refine below_set ?_ GE246.out)|exact HB.out)⟩⟩
       ·rw [if_neg c11] at H
        exact absurd H (by simp)
      ·rw [if_neg c9] at H
       exact absurd H (by simp)
     ·rw [if_neg c8] at H
      exact absurd H (by simp)
    ·rw [if_neg c6] at H
     exact absurd H (by simp)
   ·rw [if_neg c5] at H
    have c5b0:decide (x4_1 < (l0_0.length:Int)) = false:=decide_eq_false c5
    clear c5
    by_cases c14:x3_1.length < 140737488355328
    ·rw [if_pos c14] at H
     have LMc14:=Aside0.mk c14
     clear c14
     obtain ⟨y255,hy255⟩:∃ y_:List Int,y_ = (x3_1 ++ [40]):=⟨_,rfl⟩
     replace H:(spec_l1Write.l1 k1 y255 0 l0_0 l0_1) = some r:=by first|(rw [hy255];with_reducible exact H)|(have H2_:=(Option.bind_some _ _).symm.trans H;rw [hy255];with_reducible exact H2_)|(have H2_:=(Option.bind_some _ _).symm.trans H;with_reducible exact H2_)|with_reducible exact H|(rw [hy255];exact H)|exact H
     have Ny255:=Aside0.mk hy255
     clear hy255
     have H':=Aside0.mk H
     clear H
     have hcz15_0:wr.cell? ⟨gb246,0,none⟩ = some (.slice A0_0 l0_0.length c0_0):=(blk_cell BK246.out 0).trans rfl
     have hcz15_1:wr.cell? ⟨gb246,1,none⟩ = some (.slice A0_1 l0_1.length c0_1):=(blk_cell BK246.out 1).trans rfl
     have hfz15_0:=blk_frozen BK246.out 0
     have hfz15_1:=blk_frozen BK246.out 1
     go_wp2_with (first|((with_reducible refine gate_builtin (b:=.append) (xs:=#[.tmp 24,.tmp 25]) rfl ?_);at_builtin;refine Kd.R_append (Kd.int .u8) (w0:=w) w.heap.size rfl (.tmp 24) (.tmp 25) 22 5 (.int .u8 0) 1 rfl Try.underlying22 info5 rfl (by decide) (by omega) u3 x3_1 40 [.int .u8 40] (fun _=>True) (fun _=>False) rfl rfl ?aP (fun _ hk=>hk.elim) ?aF ?aO ?aB ?aS ?aL ?_;(case aP=>exact rfl);(case aB=>exact (by repeat (first|(with_reducible first|exact HB.out|apply below_alloc|apply pw_below_drewN|apply below_drew1|refine below_set ?_ GE246.out)|exact HB.out)));(case aF=>exact (fun _ _=>trivial));(case aO=>exact (by (with_reducible repeat (first|apply Kd.R_alloc|apply Kd.R_drewN|apply Kd.R_drew));exact HO_3.out));(case aS=>exact (below_size (by repeat (first|(with_reducible first|exact HB.out|apply below_alloc|apply pw_below_drewN|apply below_drew1|refine below_set ?_ GE246.out)|exact HB.out))));(case aL=>have:=LMc14.out;omega);intro v256 w16 ho hb hg hat;rw [← Ny255.out] at ho;have n0_:=Aside0.mk (blk_grown (g:=gb246) (o:=.cells #[.slice A0_0 l0_0.length c0_0,.slice A0_1 l0_1.length c0_1] 43 (0,0)) (by (with_reducible repeat (first|refine blk_drewN ?_ _|refine blk_drew ?_|refine blk_alloc ?_ _));exact BK246.out) hg (Kd.R_ne HO_3.out BK246.out (by decide)));have n1_:=Aside0.mk (hb);have n2_:=Aside0.mk (ho);clear BK246;clear HB;clear HO_3;have BK246:=n0_;have HB:=n1_;have HO257:=n2_;clear n0_ n1_ n2_;clear ho hb hg hat))
     go_loopg [3,5] k1 (fun kq v3 v5 w'=>∃ (x3_2:List Int) (x5_2:Int),v5 = .int .i64 x5_2∧Aside0 (spec_l1Write.l1 kq x3_2 x5_2 l0_0 l0_1 = some r)∧Aside0 (kq≤k1)∧Aside0 (Kd.R (Kd.int .u8) 5 w' w.heap.size (fun _=>True) v3 x3_2)∧Aside0 (w'.heap[gb246]? = some (.cells #[(.slice A0_0 l0_0.length c0_0),(.slice A0_1 l0_1.length c0_1)] 43 (0,0)))∧Aside0 (Below w.heap.size w w'))
     case atStart=>exact ⟨(y255),(0),(by first|rfl|(simp;done)|(simp [*];done)|(simp [Int.tmod_eq_emod_of_nonneg];done)),H',⟨Nat.le_refl _⟩,⟨by (with_reducible repeat (first|apply Kd.R_alloc|apply Kd.R_drewN|apply Kd.R_drew));exact HO257.out⟩,⟨by (with_reducible repeat (first|refine blk_drewN ?_ _|refine blk_drew ?_|refine blk_alloc ?_ _));exact BK246.out⟩,⟨by repeat (first|(with_reducible first|exact HB.out|apply below_alloc|apply pw_below_drewN|apply below_drew1|refine below_set ?_ GE246.out)|exact HB.out)⟩⟩
     case round =>
      clear H'
      try clear c1
      try clear p1
      try clear q1
      try clear hx1
      try clear c2
      try clear p2
      try clear q2
      try clear hx2
      try clear c3
      try clear c5
      try clear c5b0
      try clear c6
      try clear c6b0
      try clear p6
      try clear c8
      try clear c8b0
      try clear c9
      try clear c9b0
      try clear p10
      try clear q10
      try clear hx10
      try clear c11
      try clear c14
      try clear hcz12_0
      try clear hcz12_1
      try clear hcz15_0
      try clear hcz15_1
      try clear hfz12_0
      try clear hfz12_1
      try clear hfz15_0
      try clear hfz15_1
      try clear hx250_0
      try clear p10
      try clear p2
      try clear p250
      try clear q10
      try clear q250
      obtain ⟨x3_2,x5_2,rfl,HA,HK2,HO_3,BK246,HB⟩:=hrel
      cases gk with
      | zero=>exact absurd HA.out (by simp [spec_l1Write.l1])
      | succ k2 =>
       have H:=HA.out
       clear HA
       simp only [spec_l1Write.l1] at H
       by_cases c17:x5_2 < (l0_1.length:Int)
       ·rw [if_pos c17] at H
        have c17b0:decide (x5_2 < (l0_1.length:Int)) = true:=decide_eq_true c17
        clear c17
        by_cases c18:0≤x5_2
        ·rw [if_pos c18] at H
         have c18b0:decide (0≤x5_2) = true:=decide_eq_true c18
         clear c18
         replace H:=Option.bind_eq_some_iff.mp H
         obtain ⟨t259,A190,H⟩:=H
         replace H:(if 0≤t259 then (if t259 < 2 then (if x3_2.length < 140737488355328 then (spec_l1Write.l1 k2 (x3_2 ++ [bt (⟨#[48,49]⟩:ByteArray) t259]) (wrap64 (x5_2 + 1)) l0_0 l0_1) else (none)) else (none)) else (none)) = some r:=H
         have A19:=Aside0.mk A190
         clear A190
         by_cases c20:0≤t259
         ·rw [if_pos c20] at H
          have c20b0:decide (0≤t259) = true:=decide_eq_true c20
          clear c20
          by_cases c21:t259 < 2
          ·rw [if_pos c21] at H
           have c21b0:decide (t259 < 2) = true:=decide_eq_true c21
           clear c21
           by_cases c23:x3_2.length < 140737488355328
           ·rw [if_pos c23] at H
            have LMc23:=Aside0.mk c23
            clear c23
            obtain ⟨y260,hy260⟩:∃ y_:List Int,y_ = (x3_2 ++ [bt (⟨#[48,49]⟩:ByteArray) t259]):=⟨_,rfl⟩
            replace H:(spec_l1Write.l1 k2 y260 (wrap64 (x5_2 + 1)) l0_0 l0_1) = some r:=by first|(rw [hy260];with_reducible exact H)|(have H2_:=(Option.bind_some _ _).symm.trans H;rw [hy260];with_reducible exact H2_)|(have H2_:=(Option.bind_some _ _).symm.trans H;with_reducible exact H2_)|with_reducible exact H|(rw [hy260];exact H)|exact H
            have Ny260:=Aside0.mk hy260
            clear hy260
            have H':=Aside0.mk H
            clear H
            have hcz24_0:wr.cell? ⟨gb246,0,none⟩ = some (.slice A0_0 l0_0.length c0_0):=(blk_cell BK246.out 0).trans rfl
            have hcz24_1:wr.cell? ⟨gb246,1,none⟩ = some (.slice A0_1 l0_1.length c0_1):=(blk_cell BK246.out 1).trans rfl
            have hfz24_0:=blk_frozen BK246.out 0
            have hfz24_1:=blk_frozen BK246.out 1
            have p258:0≤(x5_2:Int):=of_decide_eq_true (by first|(with_reducible assumption)|assumption)
            have q258:x5_2 < (l0_1.length:Int):=of_decide_eq_true (by first|(with_reducible assumption)|assumption)
            obtain ⟨ad258,e258,hx258_0⟩:=Kd.at_bool HR0_1.out x5_2 p258 q258
            cases e258
            replace hx258_0:=(HB.out.cell (World.block_lt_of_cell? w _ hx258_0)).trans hx258_0
            replace p258:=eq_true p258
            replace q258:=eq_true q258
            go_wp2_with (first|((with_reducible refine gate_callee (f:=37) rfl ?_);refine goesL_ (some 40) rfl rfl Try.func37 (by kernel_rfl) rfl #[.bool (rdOf false l0_1 x5_2)] rfl (by (try simp only [List.map_toArray,List.map_cons,List.map_nil]);first|done|rfl|(simp only [List.length_drop,List.length_take];rfl)) ?_;(with_reducible refine (spec_l1Bit.calls (rdOf false l0_1 x5_2) t259 _ A19.out).mono ?_);rintro e w' ⟨rfl,⟨nd,rfl⟩⟩;refine ⟨_,rfl,?_⟩;have p22:0≤(t259:Int):=of_decide_eq_true (by first|(with_reducible assumption)|assumption);have q22:t259 < (2:Int):=of_decide_eq_true (by first|(with_reducible assumption)|assumption);have hx22:=bt_at (⟨#[48,49]⟩:ByteArray) t259;replace p22:=eq_true p22;replace q22:=eq_true q22)|((with_reducible refine gate_builtin (b:=.append) (xs:=#[.tmp 34,.tmp 42]) rfl ?_);at_builtin;refine Kd.R_append (Kd.int .u8) (w0:=w) w.heap.size rfl (.tmp 34) (.tmp 42) 22 5 (.int .u8 0) 1 rfl Try.underlying22 info5 rfl (by decide) (by omega) u3 x3_2 (bt (⟨#[48,49]⟩:ByteArray) t259) [.int .u8 (bt (⟨#[48,49]⟩:ByteArray) t259)] (fun _=>True) (fun _=>False) rfl rfl ?aP (fun _ hk=>hk.elim) ?aF ?aO ?aB ?aS ?aL ?_;(case aP=>exact rfl);(case aB=>exact (by repeat (first|(with_reducible first|exact HB.out|apply below_alloc|apply pw_below_drewN|apply below_drew1|refine below_set ?_ GE246.out)|exact HB.out)));(case aF=>exact (fun _ _=>trivial));(case aO=>exact (by (with_reducible repeat (first|apply Kd.R_alloc|apply Kd.R_drewN|apply Kd.R_drew));exact HO_3.out));(case aS=>exact (below_size (by repeat (first|(with_reducible first|exact HB.out|apply below_alloc|apply pw_below_drewN|apply below_drew1|refine below_set ?_ GE246.out)|exact HB.out))));(case aL=>have:=LMc23.out;omega);intro v261 w25 ho hb hg hat;rw [← Ny260.out] at ho;have n0_:=Aside0.mk (blk_grown (g:=gb246) (o:=.cells #[.slice A0_0 l0_0.length c0_0,.slice (some ad258) l0_1.length c0_1] 43 (0,0)) (by (with_reducible repeat (first|refine blk_drewN ?_ _|refine blk_drew ?_|refine blk_alloc ?_ _));exact BK246.out) hg (Kd.R_ne HO_3.out BK246.out (by decide)));have n1_:=Aside0.mk (hb);have n2_:=Aside0.mk (ho);clear BK246;clear HB;clear HO_3;have BK246:=n0_;have HB:=n1_;have HO262:=n2_;clear n0_ n1_ n2_;clear ho hb hg hat))
            go_roundg k2
            case measure=>have:=HK1.out;have:=HK2.out;omega
            case rel=>exact ⟨(y260),(wrap64 (x5_2 + 1)),(by first|rfl|(simp;done)|(simp [*];done)|(simp [Int.tmod_eq_emod_of_nonneg];done)),H',⟨by have:=HK1.out;have:=HK2.out;omega⟩,⟨by (with_reducible repeat (first|apply Kd.R_alloc|apply Kd.R_drewN|apply Kd.R_drew));exact HO262.out⟩,⟨by (with_reducible repeat (first|refine blk_drewN ?_ _|refine blk_drew ?_|refine blk_alloc ?_ _));exact BK246.out⟩,⟨by repeat (first|(with_reducible first|exact HB.out|apply below_alloc|apply pw_below_drewN|apply below_drew1|refine below_set ?_ GE246.out)|exact HB.out)⟩⟩
           ·rw [if_neg c23] at H
            exact absurd H (by simp)
          ·rw [if_neg c21] at H
           exact absurd H (by simp)
         ·rw [if_neg c20] at H
          exact absurd H (by simp)
        ·rw [if_neg c18] at H
         exact absurd H (by simp)
       ·rw [if_neg c17] at H
        have c17b0:decide (x5_2 < (l0_1.length:Int)) = false:=decide_eq_false c17
        clear c17
        by_cases c26:x3_2.length < 140737488355328
        ·rw [if_pos c26] at H
         have LMc26:=Aside0.mk c26
         clear c26
         obtain ⟨y263,hy263⟩:∃ y_:List Int,y_ = (x3_2 ++ [41]):=⟨_,rfl⟩
         replace H:(some (strOfNums y263)) = some r:=by first|(rw [hy263];with_reducible exact H)|(have H2_:=(Option.bind_some _ _).symm.trans H;rw [hy263];with_reducible exact H2_)|(have H2_:=(Option.bind_some _ _).symm.trans H;with_reducible exact H2_)|with_reducible exact H|(rw [hy263];exact H)|exact H
         have Ny263:=Aside0.mk hy263
         clear hy263
         obtain rfl:=Option.some.inj H
         have hcz27_0:wr.cell? ⟨gb246,0,none⟩ = some (.slice A0_0 l0_0.length c0_0):=(blk_cell BK246.out 0).trans rfl
         have hcz27_1:wr.cell? ⟨gb246,1,none⟩ = some (.slice A0_1 l0_1.length c0_1):=(blk_cell BK246.out 1).trans rfl
         have hfz27_0:=blk_frozen BK246.out 0
         have hfz27_1:=blk_frozen BK246.out 1
         go_wp2_with (first|((with_reducible refine gate_builtin (b:=.append) (xs:=#[.tmp 44,.tmp 45]) rfl ?_);at_builtin;refine Kd.R_append (Kd.int .u8) (w0:=w) w.heap.size rfl (.tmp 44) (.tmp 45) 22 5 (.int .u8 0) 1 rfl Try.underlying22 info5 rfl (by decide) (by omega) u3 x3_2 41 [.int .u8 41] (fun _=>True) (fun _=>False) rfl rfl ?aP (fun _ hk=>hk.elim) ?aF ?aO ?aB ?aS ?aL ?_;(case aP=>exact rfl);(case aB=>exact (by repeat (first|(with_reducible first|exact HB.out|apply below_alloc|apply pw_below_drewN|apply below_drew1|refine below_set ?_ GE246.out)|exact HB.out)));(case aF=>exact (fun _ _=>trivial));(case aO=>exact (by (with_reducible repeat (first|apply Kd.R_alloc|apply Kd.R_drewN|apply Kd.R_drew));exact HO_3.out));(case aS=>exact (below_size (by repeat (first|(with_reducible first|exact HB.out|apply below_alloc|apply pw_below_drewN|apply below_drew1|refine below_set ?_ GE246.out)|exact HB.out))));(case aL=>have:=LMc26.out;omega);intro v264 w28 ho hb hg hat;rw [← Ny263.out] at ho;have n0_:=Aside0.mk (blk_grown (g:=gb246) (o:=.cells #[.slice A0_0 l0_0.length c0_0,.slice A0_1 l0_1.length c0_1] 43 (0,0)) (by (with_reducible repeat (first|refine blk_drewN ?_ _|refine blk_drew ?_|refine blk_alloc ?_ _));exact BK246.out) hg (Kd.R_ne HO_3.out BK246.out (by decide)));have n1_:=Aside0.mk (hb);have n2_:=Aside0.mk (ho);clear BK246;clear HB;clear HO_3;have BK246:=n0_;have HB:=n1_;have HO265:=n2_;clear n0_ n1_ n2_;clear ho hb hg hat;have hcv29:=own_string (P:=Try.prog) Try.underlying22 Try.underlying5 Try.underlying9 (Kd.own_of_R HO265.out)))
         go_ret
         exact ⟨by first|rfl|(simp [errW_none,errW_some] <;> rfl)|(simp [*,errW_none,errW_some] <;> rfl)|(simp [errW_none,errW_some];exact ⟨rfl,rfl⟩),by repeat (first|(with_reducible first|exact HB.out|apply below_alloc|apply pw_below_drewN|apply below_drew1|refine below_set ?_ GE246.out)|exact HB.out)⟩
        ·rw [if_neg c26] at H
         exact absurd H (by simp)
    ·rw [if_neg c14] at H
     exact absurd H (by simp)

end Go.Proofs.Ytmedlhoahddbmaa.P

namespace Go.Proofs.Ytmedlhoahddbmaa.P
open Go.RowKit Go.Proofs.YtmedlhoahddbmaaW.PrintWords Go.Proofs.YtmedlhoahddbmaaW.PrintLast Go.Proofs.YtmedlhoahddbmaaW.PrintMore
attribute [local go_sem] max2_int min2_int max_two min_two max_three min_three max_four min_four   -- for this text's walks alone
set_option linter.unusedVariables false
set_option linter.unusedSimpArgs false

/-! ### spec_l1Done: function 19 -/
def spec_l1Done.f (k:Nat) (l0_0:List Bool) (l0_1:List Bool):Option (ByteArray × Bool):=(spec_l1Less.f k l0_0 l0_1).bind fun bt267=>(if (bt267.1.length:Int) > 60 then (some ((⟨#[]⟩:ByteArray),false)) else (if (bt267.2.length:Int) > 60 then (some ((⟨#[]⟩:ByteArray),false)) else ((spec_l1Write.f k bt267.1 bt267.2).bind fun t274=>(some (t274,true)))))
theorem spec_l1Done.mono:∀ a0 a1 k,LeO (spec_l1Done.f k a0 a1) (spec_l1Done.f (k + 1) a0 a1):=by
 intro a0 a1 k
 unfold spec_l1Done.f
 repeat' first
   | (with_reducible exact spec_l1Less.mono _ _ _)
   | (with_reducible exact spec_l1Write.mono _ _ _)
   | (with_reducible exact LeO.refl _)
   | (with_reducible exact LeO.none _)
   | (with_reducible refine LeO.ite ?_ ?_)
   | (with_reducible refine LeO.bind ?_ (fun _=>?_))
   | exact spec_l1Less.mono _ _ _
   | exact spec_l1Write.mono _ _ _
   | exact LeO.none _
   | refine LeO.ite ?_ ?_
   | refine LeO.bind ?_ (fun _=>?_)
set_option maxHeartbeats 8000000 in
set_option maxRecDepth 100000 in
theorem spec_l1Done.calls (k:Nat) (A0_0:Option Addr) (c0_0:Nat) (l0_0:List Bool) (A0_1:Option Addr) (c0_1:Nat) (l0_1:List Bool) (r1:ByteArray) (r2:Bool) (w:World) (hr0_0:Kd.C Kd.bool w A0_0 l0_0.length l0_0) (hc0_0:l0_0.length≤c0_0) (hr0_1:Kd.C Kd.bool w A0_1 l0_1.length l0_1) (hc0_1:l0_1.length≤c0_1) (h:spec_l1Done.f k l0_0 l0_1 = some (r1,r2)) :
  Calls Try.prog 19 #[.agg #[.slice A0_0 l0_0.length c0_0,.slice A0_1 l0_1.length c0_1]] w fun e w'=>e = .returned (.tuple #[.string r1,.bool r2])∧Below w.heap.size w w':=by
 have hu43:=Try.underlying43
 have HR0_0:=Aside0.mk hr0_0
 have HC0_0:=Aside0.mk hc0_0
 clear hr0_0 hc0_0
 have HR0_1:=Aside0.mk hr0_1
 have HC0_1:=Aside0.mk hc0_1
 clear hr0_1 hc0_1
 have HB:=Aside0.mk (Below.refl w.heap.size w)
 have H:((spec_l1Less.f k l0_0 l0_1).bind fun bt267=>(if (bt267.1.length:Int) > 60 then (some ((⟨#[]⟩:ByteArray),false)) else (if (bt267.2.length:Int) > 60 then (some ((⟨#[]⟩:ByteArray),false)) else ((spec_l1Write.f k bt267.1 bt267.2).bind fun t274=>(some (t274,true)))))) = some (r1,r2):=h
 clear h
 replace H:=Option.bind_eq_some_iff.mp H
 obtain ⟨⟨t267,t270⟩,A20,H⟩:=H
 replace H:(if (t267.length:Int) > 60 then (some ((⟨#[]⟩:ByteArray),false)) else (if (t270.length:Int) > 60 then (some ((⟨#[]⟩:ByteArray),false)) else ((spec_l1Write.f k t267 t270).bind fun t274=>(some (t274,true))))) = some (r1,r2):=H
 have A2:=Aside0.mk A20
 clear A20
 by_cases c3:(t267.length:Int) > 60
 ·rw [if_pos c3] at H
  have c3b0:decide (60 < (t267.length:Int)) = true:=decide_eq_true c3
  have c3b1:decide (60 < t267.length) = true:=decide_eq_true (by omega)
  clear c3
  simp only [Option.some.injEq,Prod.mk.injEq] at H
  obtain ⟨rfl,rfl⟩:=H
  go_enter Try.func19,Try.ntmps19
  go_wp2_with (first|((with_reducible refine gate_dst (N:=1) rfl ?_);(try (refine gate_guard (by rfl) ?_;dsimp only));refine box_event ?hg (N:=1) ?hd (cs:=#[.slice A0_0 l0_0.length c0_0,.slice A0_1 l0_1.length c0_1]) (t:=43) ?hr ?_;(case hd=>rfl);(case hg=>rfl);(case hr=>first|(go_simp;done)|(go_simp;rfl));intro gb266 hg w4 hbox hb;have n0_:=Aside0.mk (below_step (by repeat (first|(with_reducible first|exact HB.out|apply below_alloc|apply pw_below_drewN|apply below_drew1)|exact HB.out)) hb);have n1_:=Aside0.mk (hbox);have n2_:=Aside0.mk ((by rw [hg];exact (below_size (by repeat (first|(with_reducible first|exact HB.out|apply below_alloc|apply pw_below_drewN|apply below_drew1)|exact HB.out))):w.heap.size≤gb266));have n3_:=Aside0.mk ((by rw [hg];exact (below_size (by repeat (first|(with_reducible first|exact HB.out|apply below_alloc|apply pw_below_drewN|apply below_drew1)|exact HB.out))):w.heap.size≤gb266));clear HB;have HB:=n0_;have BK266:=n1_;have GW266:=n2_;have GE266:=n3_;clear n0_ n1_ n2_ n3_;clear hb hbox hg;have hcz5_0:w4.cell? ⟨gb266,0,none⟩ = some (.slice A0_0 l0_0.length c0_0):=(blk_cell BK266.out 0).trans rfl;have hcz5_1:w4.cell? ⟨gb266,1,none⟩ = some (.slice A0_1 l0_1.length c0_1):=(blk_cell BK266.out 1).trans rfl;have hfz5_0:=blk_frozen BK266.out 0;have hfz5_1:=blk_frozen BK266.out 1)|((with_reducible refine gate_callee (f:=28) rfl ?_);refine goesL_ (some 6) rfl rfl Try.func28 (by kernel_rfl) rfl #[.agg #[.slice A0_0 l0_0.length c0_0,.slice A0_1 l0_1.length c0_1]] rfl (by (try simp only [List.map_toArray,List.map_cons,List.map_nil]);first|done|rfl|(simp only [List.length_drop,List.length_take];rfl)) ?_;(with_reducible refine (spec_l1Less.calls k (fun k_=>k_ < w.heap.size) _ _ l0_0 (fun k_=>k_ < w.heap.size) _ _ l0_1 t267 t270 _ ?side1 ?side2 A2.out).mono ?_);(case side1=>exact Kd.V_mk HC0_0.out (Kd.F_below (Kd.C_F Kd.heap_bool HR0_0.out) (by repeat (first|(with_reducible first|exact HB.out|apply below_alloc|apply pw_below_drewN|apply below_drew1|refine below_set ?_ GE266.out)|exact HB.out))));(case side2=>exact Kd.V_mk HC0_1.out (Kd.F_below (Kd.C_F Kd.heap_bool HR0_1.out) (by repeat (first|(with_reducible first|exact HB.out|apply below_alloc|apply pw_below_drewN|apply below_drew1|refine below_set ?_ GE266.out)|exact HB.out))));rintro e w6 ⟨v268,v271,rfl,ho0,ho1,hb⟩;refine ⟨_,rfl,?_⟩;have n0_:=Aside0.mk (Kd.V_lower (Kd.V_mono (ok':=fun k_=>k_ ≠ gb266) ho0 (fun k_ hk_=>Or.elim hk_ (fun hs_=>Or.elim hs_ (fun hs_=>fun e_=>Nat.not_le.2 hs_ (by rw [e_];exact GW266.out)) (fun hs_=>fun e_=>Nat.not_le.2 hs_ (by rw [e_];exact GW266.out))) (fun hn_=>(Kd.freshB (g:=gb266) (o:=.cells #[.slice A0_0 l0_0.length c0_0,.slice A0_1 l0_1.length c0_1] 43 (0,0)) (by (with_reducible repeat (first|refine blk_drewN ?_ _|refine blk_drew ?_|refine blk_alloc ?_ _));exact BK266.out) k_ hn_)))) (below_size (by repeat (first|(with_reducible first|exact HB.out|apply below_alloc|apply pw_below_drewN|apply below_drew1|refine below_set ?_ GE266.out)|exact HB.out))));have n1_:=Aside0.mk (Kd.V_lower (Kd.V_mono (ok':=fun k_=>k_ ≠ gb266) ho1 (fun k_ hk_=>Or.elim hk_ (fun hs_=>Or.elim hs_ (fun hs_=>fun e_=>Nat.not_le.2 hs_ (by rw [e_];exact GW266.out)) (fun hs_=>fun e_=>Nat.not_le.2 hs_ (by rw [e_];exact GW266.out))) (fun hn_=>(Kd.freshB (g:=gb266) (o:=.cells #[.slice A0_0 l0_0.length c0_0,.slice A0_1 l0_1.length c0_1] 43 (0,0)) (by (with_reducible repeat (first|refine blk_drewN ?_ _|refine blk_drew ?_|refine blk_alloc ?_ _));exact BK266.out) k_ hn_)))) (below_size (by repeat (first|(with_reducible first|exact HB.out|apply below_alloc|apply pw_below_drewN|apply below_drew1|refine below_set ?_ GE266.out)|exact HB.out))));have n2_:=Aside0.mk (blk_below (g:=gb266) (o:=.cells #[.slice A0_0 l0_0.length c0_0,.slice A0_1 l0_1.length c0_1] 43 (0,0)) (by (with_reducible repeat (first|refine blk_drewN ?_ _|refine blk_drew ?_|refine blk_alloc ?_ _));exact BK266.out) hb);have n3_:=Aside0.mk (below_step (by repeat (first|(with_reducible first|exact HB.out|apply below_alloc|apply pw_below_drewN|apply below_drew1|refine below_set ?_ GE266.out)|exact HB.out)) hb);clear BK266;clear HB;have HO269:=n0_;have HO272:=n1_;have BK266:=n2_;have HB:=n3_;clear n0_ n1_ n2_ n3_;(try clear hb);(try clear hb2);(try clear hk);(try clear hi);(try clear ho0);(try clear ho1))|((with_reducible refine gate_dst (N:=4) rfl ?_);(try (refine gate_guard (by rfl) ?_;dsimp only));refine box_event ?hg (N:=4) ?hd (cs:=#[.slice none 0 0,.slice none 0 0]) (t:=43) ?hr ?_;(case hd=>rfl);(case hg=>rfl);(case hr=>first|(go_simp;done)|(go_simp;rfl));intro gb273 hg w7 hbox hb;have n0_:=Aside0.mk (Kd.V_below (Kd.V_elderB (by (with_reducible repeat (first|apply Kd.V_alloc|apply Kd.V_drewN|apply Kd.V_drew));exact HO269.out) gb273 (Nat.le_of_eq hg.symm)) hb);have n1_:=Aside0.mk (Kd.V_below (Kd.V_elderB (by (with_reducible repeat (first|apply Kd.V_alloc|apply Kd.V_drewN|apply Kd.V_drew));exact HO272.out) gb273 (Nat.le_of_eq hg.symm)) hb);have n2_:=Aside0.mk (blk_below (g:=gb266) (o:=.cells #[.slice A0_0 l0_0.length c0_0,.slice A0_1 l0_1.length c0_1] 43 (0,0)) (by (with_reducible repeat (first|refine blk_drewN ?_ _|refine blk_drew ?_|refine blk_alloc ?_ _));exact BK266.out) hb);have n3_:=Aside0.mk (below_step (by repeat (first|(with_reducible first|exact HB.out|apply below_alloc|apply pw_below_drewN|apply below_drew1|refine below_set ?_ GE266.out)|exact HB.out)) hb);have n4_:=Aside0.mk (hbox);have n5_:=Aside0.mk ((by rw [hg];exact (below_size (by repeat (first|(with_reducible first|exact HB.out|apply below_alloc|apply pw_below_drewN|apply below_drew1|refine below_set ?_ GE266.out)|exact HB.out))):w.heap.size≤gb273));have n6_:=Aside0.mk ((by rw [hg];exact (below_size (by repeat (first|(with_reducible first|exact HB.out|apply below_alloc|apply pw_below_drewN|apply below_drew1|refine below_set ?_ GE266.out)|exact HB.out))):w.heap.size≤gb273));have n7_:=Aside0.mk ((by rw [hg];exact Nat.ne_of_lt (blk_lt (g:=gb266) (o:=.cells #[.slice A0_0 l0_0.length c0_0,.slice A0_1 l0_1.length c0_1] 43 (0,0)) (by (with_reducible repeat (first|refine blk_drewN ?_ _|refine blk_drew ?_|refine blk_alloc ?_ _));exact BK266.out)):gb266 ≠ gb273));have n8_:=Aside0.mk ((by rw [hg];exact Nat.ne_of_gt (blk_lt (g:=gb266) (o:=.cells #[.slice A0_0 l0_0.length c0_0,.slice A0_1 l0_1.length c0_1] 43 (0,0)) (by (with_reducible repeat (first|refine blk_drewN ?_ _|refine blk_drew ?_|refine blk_alloc ?_ _));exact BK266.out)):gb273 ≠ gb266));clear HO269;clear HO272;clear BK266;clear HB;have HO269:=n0_;have HO272:=n1_;have BK266:=n2_;have HB:=n3_;have BK273:=n4_;have GW273:=n5_;have GE273:=n6_;have NB266_273:=n7_;have NB273_266:=n8_;clear n0_ n1_ n2_ n3_ n4_ n5_ n6_ n7_ n8_;clear hb hbox hg;obtain ⟨Ao8,co8,eo8⟩:=Kd.V_slice HO269.out;subst eo8;have hnb9:=NB273_266.out;have hnc9:=NB266_273.out;have hcz10_0:w7.cell? ⟨gb273,0,none⟩ = some (.slice none 0 0):=(blk_cell BK273.out 0).trans rfl;have hcz10_1:w7.cell? ⟨gb273,1,none⟩ = some (.slice none 0 0):=(blk_cell BK273.out 1).trans rfl;have hfz10_0:=blk_frozen BK273.out 0;have hfz10_1:=blk_frozen BK273.out 1;obtain ⟨Ao11,co11,eo11⟩:=Kd.V_slice HO272.out;subst eo11))
  go_ret2
  exact ⟨by first|rfl|(simp [errW_none,errW_some] <;> rfl)|(simp [*,errW_none,errW_some] <;> rfl)|(simp [errW_none,errW_some];exact ⟨rfl,rfl⟩),by repeat (first|(with_reducible first|exact HB.out|apply below_alloc|apply pw_below_drewN|apply below_drew1|refine below_set ?_ GE266.out|refine below_set ?_ GE273.out)|exact HB.out)⟩
 ·rw [if_neg c3] at H
  have c3b0:decide (60 < (t267.length:Int)) = false:=decide_eq_false c3
  have c3b1:decide (60 < t267.length) = false:=decide_eq_false (by omega)
  clear c3
  by_cases c12:(t270.length:Int) > 60
  ·rw [if_pos c12] at H
   have c12b0:decide (60 < (t270.length:Int)) = true:=decide_eq_true c12
   have c12b1:decide (60 < t270.length) = true:=decide_eq_true (by omega)
   clear c12
   simp only [Option.some.injEq,Prod.mk.injEq] at H
   obtain ⟨rfl,rfl⟩:=H
   go_enter Try.func19,Try.ntmps19
   go_wp2_with (first|((with_reducible refine gate_dst (N:=1) rfl ?_);(try (refine gate_guard (by rfl) ?_;dsimp only));refine box_event ?hg (N:=1) ?hd (cs:=#[.slice A0_0 l0_0.length c0_0,.slice A0_1 l0_1.length c0_1]) (t:=43) ?hr ?_;(case hd=>rfl);(case hg=>rfl);(case hr=>first|(go_simp;done)|(go_simp;rfl));intro gb266 hg w13 hbox hb;have n0_:=Aside0.mk (below_step (by repeat (first|(with_reducible first|exact HB.out|apply below_alloc|apply pw_below_drewN|apply below_drew1)|exact HB.out)) hb);have n1_:=Aside0.mk (hbox);have n2_:=Aside0.mk ((by rw [hg];exact (below_size (by repeat (first|(with_reducible first|exact HB.out|apply below_alloc|apply pw_below_drewN|apply below_drew1)|exact HB.out))):w.heap.size≤gb266));have n3_:=Aside0.mk ((by rw [hg];exact (below_size (by repeat (first|(with_reducible first|exact HB.out|apply below_alloc|apply pw_below_drewN|apply below_drew1)|exact HB.out))):w.heap.size≤gb266));clear HB;have HB:=n0_;have BK266:=n1_;have GW266:=n2_;have GE266:=n3_;clear n0_ n1_ n2_ n3_;clear hb hbox hg;have hcz14_0:w13.cell? ⟨gb266,0,none⟩ = some (.slice A0_0 l0_0.length c0_0):=(blk_cell BK266.out 0).trans rfl;have hcz14_1:w13.cell? ⟨gb266,1,none⟩ = some (.slice A0_1 l0_1.length c0_1):=(blk_cell BK266.out 1).trans rfl;have hfz14_0:=blk_frozen BK266.out 0;have hfz14_1:=blk_frozen BK266.out 1)|((with_reducible refine gate_callee (f:=28) rfl ?_);refine goesL_ (some 6) rfl rfl Try.func28 (by kernel_rfl) rfl #[.agg #[.slice A0_0 l0_0.length c0_0,.slice A0_1 l0_1.length c0_1]] rfl (by (try simp only [List.map_toArray,List.map_cons,List.map_nil]);first|done|rfl|(simp only [List.length_drop,List.length_take];rfl)) ?_;(with_reducible refine (spec_l1Less.calls k (fun k_=>k_ < w.heap.size) _ _ l0_0 (fun k_=>k_ < w.heap.size) _ _ l0_1 t267 t270 _ ?side1 ?side2 A2.out).mono ?_);(case side1=>exact Kd.V_mk HC0_0.out (Kd.F_below (Kd.C_F Kd.heap_bool HR0_0.out) (by repeat (first|(with_reducible first|exact HB.out|apply below_alloc|apply pw_below_drewN|apply below_drew1|refine below_set ?_ GE266.out)|exact HB.out))));(case side2=>exact Kd.V_mk HC0_1.out (Kd.F_below (Kd.C_F Kd.heap_bool HR0_1.out) (by repeat (first|(with_reducible first|exact HB.out|apply below_alloc|apply pw_below_drewN|apply below_drew1|refine below_set ?_ GE266.out)|exact HB.out))));rintro e w15 ⟨v268,v271,rfl,ho0,ho1,hb⟩;refine ⟨_,rfl,?_⟩;have n0_:=Aside0.mk (Kd.V_lower (Kd.V_mono (ok':=fun k_=>k_ ≠ gb266) ho0 (fun k_ hk_=>Or.elim hk_ (fun hs_=>Or.elim hs_ (fun hs_=>fun e_=>Nat.not_le.2 hs_ (by rw [e_];exact GW266.out)) (fun hs_=>fun e_=>Nat.not_le.2 hs_ (by rw [e_];exact GW266.out))) (fun hn_=>(Kd.freshB (g:=gb266) (o:=.cells #[.slice A0_0 l0_0.length c0_0,.slice A0_1 l0_1.length c0_1] 43 (0,0)) (by (with_reducible repeat (first|refine blk_drewN ?_ _|refine blk_drew ?_|refine blk_alloc ?_ _));exact BK266.out) k_ hn_)))) (below_size (by repeat (first|(with_reducible first|exact HB.out|apply below_alloc|apply pw_below_drewN|apply below_drew1|refine below_set ?_ GE266.out)|exact HB.out))));have n1_:=Aside0.mk (Kd.V_lower (Kd.V_mono (ok':=fun k_=>k_ ≠ gb266) ho1 (fun k_ hk_=>Or.elim hk_ (fun hs_=>Or.elim hs_ (fun hs_=>fun e_=>Nat.not_le.2 hs_ (by rw [e_];exact GW266.out)) (fun hs_=>fun e_=>Nat.not_le.2 hs_ (by rw [e_];exact GW266.out))) (fun hn_=>(Kd.freshB (g:=gb266) (o:=.cells #[.slice A0_0 l0_0.length c0_0,.slice A0_1 l0_1.length c0_1] 43 (0,0)) (by (with_reducible repeat (first|refine blk_drewN ?_ _|refine blk_drew ?_|refine blk_alloc ?_ _));exact BK266.out) k_ hn_)))) (below_size (by repeat (first|(with_reducible first|exact HB.out|apply below_alloc|apply pw_below_drewN|apply below_drew1|refine below_set ?_ GE266.out)|exact HB.out))));have n2_:=Aside0.mk (blk_below (g:=gb266) (o:=.cells #[.slice A0_0 l0_0.length c0_0,.slice A0_1 l0_1.length c0_1] 43 (0,0)) (by (with_reducible repeat (first|refine blk_drewN ?_ _|refine blk_drew ?_|refine blk_alloc ?_ _));exact BK266.out) hb);have n3_:=Aside0.mk (below_step (by repeat (first|(with_reducible first|exact HB.out|apply below_alloc|apply pw_below_drewN|apply below_drew1|refine below_set ?_ GE266.out)|exact HB.out)) hb);clear BK266;clear HB;have HO269:=n0_;have HO272:=n1_;have BK266:=n2_;have HB:=n3_;clear n0_ n1_ n2_ n3_;(try clear hb);(try clear hb2);(try clear hk);(try clear hi);(try clear ho0);(try clear ho1))|((with_reducible refine gate_dst (N:=4) rfl ?_);(try (refine gate_guard (by rfl) ?_;dsimp only));refine box_event ?hg (N:=4) ?hd (cs:=#[.slice none 0 0,.slice none 0 0]) (t:=43) ?hr ?_;(case hd=>rfl);(case hg=>rfl);(case hr=>first|(go_simp;done)|(go_simp;rfl));intro gb273 hg w16 hbox hb;have n0_:=Aside0.mk (Kd.V_below (Kd.V_elderB (by (with_reducible repeat (first|apply Kd.V_alloc|apply Kd.V_drewN|apply Kd.V_drew));exact HO269.out) gb273 (Nat.le_of_eq hg.symm)) hb);have n1_:=Aside0.mk (Kd.V_below (Kd.V_elderB (by (with_reducible repeat (first|apply Kd.V_alloc|apply Kd.V_drewN|apply Kd.V_drew));exact HO272.out) gb273 (Nat.le_of_eq hg.symm)) hb);have n2_:=Aside0.mk (blk_below (g:=gb266) (o:=.cells #[.slice A0_0 l0_0.length c0_0,.slice A0_1 l0_1.length c0_1] 43 (0,0)) (by (with_reducible repeat (first|refine blk_drewN ?_ _|refine blk_drew ?_|refine blk_alloc ?_ _));exact BK266.out) hb);have n3_:=Aside0.mk (below_step (by repeat (first|(with_reducible first|exact HB.out|apply below_alloc|apply pw_below_drewN|apply below_drew1|refine below_set ?_ GE266.out)|exact HB.out)) hb);have n4_:=Aside0.mk (hbox);have n5_:=Aside0.mk ((by rw [hg];exact (below_size (by repeat (first|(with_reducible first|exact HB.out|apply below_alloc|apply pw_below_drewN|apply below_drew1|refine below_set ?_ GE266.out)|exact HB.out))):w.heap.size≤gb273));have n6_:=Aside0.mk ((by rw [hg];exact (below_size (by repeat (first|(with_reducible first|exact HB.out|apply below_alloc|apply pw_below_drewN|apply below_drew1|refine below_set ?_ GE266.out)|exact HB.out))):w.heap.size≤gb273));have n7_:=Aside0.mk ((by rw [hg];exact Nat.ne_of_lt (blk_lt (g:=gb266) (o:=.cells #[.slice A0_0 l0_0.length c0_0,.slice A0_1 l0_1.length c0_1] 43 (0,0)) (by (with_reducible repeat (first|refine blk_drewN ?_ _|refine blk_drew ?_|refine blk_alloc ?_ _));exact BK266.out)):gb266 ≠ gb273));have n8_:=Aside0.mk ((by rw [hg];exact Nat.ne_of_gt (blk_lt (g:=gb266) (o:=.cells #[.slice A0_0 l0_0.length c0_0,.slice A0_1 l0_1.length c0_1] 43 (0,0)) (by (with_reducible repeat (first|refine blk_drewN ?_ _|refine blk_drew ?_|refine blk_alloc ?_ _));exact BK266.out)):gb273 ≠ gb266));clear HO269;clear HO272;clear BK266;clear HB;have HO269:=n0_;have HO272:=n1_;have BK266:=n2_;have HB:=n3_;have BK273:=n4_;have GW273:=n5_;have GE273:=n6_;have NB266_273:=n7_;have NB273_266:=n8_;clear n0_ n1_ n2_ n3_ n4_ n5_ n6_ n7_ n8_;clear hb hbox hg;obtain ⟨Ao17,co17,eo17⟩:=Kd.V_slice HO269.out;subst eo17;have hnb18:=NB273_266.out;have hnc18:=NB266_273.out;have hcz19_0:w16.cell? ⟨gb273,0,none⟩ = some (.slice none 0 0):=(blk_cell BK273.out 0).trans rfl;have hcz19_1:w16.cell? ⟨gb273,1,none⟩ = some (.slice none 0 0):=(blk_cell BK273.out 1).trans rfl;have hfz19_0:=blk_frozen BK273.out 0;have hfz19_1:=blk_frozen BK273.out 1;obtain ⟨Ao20,co20,eo20⟩:=Kd.V_slice HO272.out;subst eo20))
   go_ret2
   exact ⟨by first|rfl|(simp [errW_none,errW_some] <;> rfl)|(simp [*,errW_none,errW_some] <;> rfl)|(simp [errW_none,errW_some];exact ⟨rfl,rfl⟩),by repeat (first|(with_reducible first|exact HB.out|apply below_alloc|apply pw_below_drewN|apply below_drew1|refine below_set ?_ GE266.out|refine below_set ?_ GE273.out)|exact HB.out)⟩
  ·rw [if_neg c12] at H
   have c12b0:decide (60 < (t270.length:Int)) = false:=decide_eq_false c12
   have c12b1:decide (60 < t270.length) = false:=decide_eq_false (by omega)
   clear c12
   replace H:=Option.bind_eq_some_iff.mp H
   obtain ⟨t274,A210,H⟩:=H
   replace H:(some (t274,true)) = some (r1,r2):=H
   have A21:=Aside0.mk A210
   clear A210
   simp only [Option.some.injEq,Prod.mk.injEq] at H
   obtain ⟨rfl,rfl⟩:=H
   go_enter Try.func19,Try.ntmps19
   go_wp2_with (first|((with_reducible refine gate_dst (N:=1) rfl ?_);(try (refine gate_guard (by rfl) ?_;dsimp only));refine box_event ?hg (N:=1) ?hd (cs:=#[.slice A0_0 l0_0.length c0_0,.slice A0_1 l0_1.length c0_1]) (t:=43) ?hr ?_;(case hd=>rfl);(case hg=>rfl);(case hr=>first|(go_simp;done)|(go_simp;rfl));intro gb266 hg w22 hbox hb;have n0_:=Aside0.mk (below_step (by repeat (first|(with_reducible first|exact HB.out|apply below_alloc|apply pw_below_drewN|apply below_drew1)|exact HB.out)) hb);have n1_:=Aside0.mk (hbox);have n2_:=Aside0.mk ((by rw [hg];exact (below_size (by repeat (first|(with_reducible first|exact HB.out|apply below_alloc|apply pw_below_drewN|apply below_drew1)|exact HB.out))):w.heap.size≤gb266));have n3_:=Aside0.mk ((by rw [hg];exact (below_size (by repeat (first|(with_reducible first|exact HB.out|apply below_alloc|apply pw_below_drewN|apply below_drew1)|exact HB.out))):w.heap.size≤gb266));clear HB;have HB:=n0_;have BK266:=n1_;have GW266:=n2_;have GE266:=n3_;clear n0_ n1_ n2_ n3_;clear hb hbox hg;have hcz23_0:w22.cell? ⟨gb266,0,none⟩ = some (.slice A0_0 l0_0.length c0_0):=(blk_cell BK266.out 0).trans rfl;have hcz23_1:w22.cell? ⟨gb266,1,none⟩ = some (.slice A0_1 l0_1.length c0_1):=(blk_cell BK266.out 1).trans rfl;have hfz23_0:=blk_frozen BK266.out 0;have hfz23_1:=blk_frozen BK266.out 1)|((with_reducible refine gate_callee (f:=28) rfl ?_);refine goesL_ (some 6) rfl rfl Try.func28 (by kernel_rfl) rfl #[.agg #[.slice A0_0 l0_0.length c0_0,.slice A0_1 l0_1.length c0_1]] rfl (by (try simp only [List.map_toArray,List.map_cons,List.map_nil]);first|done|rfl|(simp only [List.length_drop,List.length_take];rfl)) ?_;(with_reducible refine (spec_l1Less.calls k (fun k_=>k_ < w.heap.size) _ _ l0_0 (fun k_=>k_ < w.heap.size) _ _ l0_1 t267 t270 _ ?side1 ?side2 A2.out).mono ?_);(case side1=>exact Kd.V_mk HC0_0.out (Kd.F_below (Kd.C_F Kd.heap_bool HR0_0.out) (by repeat (first|(with_reducible first|exact HB.out|apply below_alloc|apply pw_below_drewN|apply below_drew1|refine below_set ?_ GE266.out)|exact HB.out))));(case side2=>exact Kd.V_mk HC0_1.out (Kd.F_below (Kd.C_F Kd.heap_bool HR0_1.out) (by repeat (first|(with_reducible first|exact HB.out|apply below_alloc|apply pw_below_drewN|apply below_drew1|refine below_set ?_ GE266.out)|exact HB.out))));rintro e w24 ⟨v268,v271,rfl,ho0,ho1,hb⟩;refine ⟨_,rfl,?_⟩;have n0_:=Aside0.mk (Kd.V_lower (Kd.V_mono (ok':=fun k_=>k_ ≠ gb266) ho0 (fun k_ hk_=>Or.elim hk_ (fun hs_=>Or.elim hs_ (fun hs_=>fun e_=>Nat.not_le.2 hs_ (by rw [e_];exact GW266.out)) (fun hs_=>fun e_=>Nat.not_le.2 hs_ (by rw [e_];exact GW266.out))) (fun hn_=>(Kd.freshB (g:=gb266) (o:=.cells #[.slice A0_0 l0_0.length c0_0,.slice A0_1 l0_1.length c0_1] 43 (0,0)) (by (with_reducible repeat (first|refine blk_drewN ?_ _|refine blk_drew ?_|refine blk_alloc ?_ _));exact BK266.out) k_ hn_)))) (below_size (by repeat (first|(with_reducible first|exact HB.out|apply below_alloc|apply pw_below_drewN|apply below_drew1|refine below_set ?_ GE266.out)|exact HB.out))));have n1_:=Aside0.mk (Kd.V_lower (Kd.V_mono (ok':=fun k_=>k_ ≠ gb266) ho1 (fun k_ hk_=>Or.elim hk_ (fun hs_=>Or.elim hs_ (fun hs_=>fun e_=>Nat.not_le.2 hs_ (by rw [e_];exact GW266.out)) (fun hs_=>fun e_=>Nat.not_le.2 hs_ (by rw [e_];exact GW266.out))) (fun hn_=>(Kd.freshB (g:=gb266) (o:=.cells #[.slice A0_0 l0_0.length c0_0,.slice A0_1 l0_1.length c0_1] 43 (0,0)) (by (with_reducible repeat (first|refine blk_drewN ?_ _|refine blk_drew ?_|refine blk_alloc ?_ _));exact BK266.out) k_ hn_)))) (below_size (by repeat (first|(with_reducible first|exact HB.out|apply below_alloc|apply pw_below_drewN|apply below_drew1|refine below_set ?_ GE266.out)|exact HB.out))));have n2_:=Aside0.mk (blk_below (g:=gb266) (o:=.cells #[.slice A0_0 l0_0.length c0_0,.slice A0_1 l0_1.length c0_1] 43 (0,0)) (by (with_reducible repeat (first|refine blk_drewN ?_ _|refine blk_drew ?_|refine blk_alloc ?_ _));exact BK266.out) hb);have n3_:=Aside0.mk (below_step (by repeat (first|(with_reducible first|exact HB.out|apply below_alloc|apply pw_below_drewN|apply below_drew1|refine below_set ?_ GE266.out)|exact HB.out)) hb);clear BK266;clear HB;have HO269:=n0_;have HO272:=n1_;have BK266:=n2_;have HB:=n3_;clear n0_ n1_ n2_ n3_;(try clear hb);(try clear hb2);(try clear hk);(try clear hi);(try clear ho0);(try clear ho1))|((with_reducible refine gate_dst (N:=4) rfl ?_);(try (refine gate_guard (by rfl) ?_;dsimp only));refine box_event ?hg (N:=4) ?hd (cs:=#[.slice none 0 0,.slice none 0 0]) (t:=43) ?hr ?_;(case hd=>rfl);(case hg=>rfl);(case hr=>first|(go_simp;done)|(go_simp;rfl));intro gb273 hg w25 hbox hb;have n0_:=Aside0.mk (Kd.V_below (Kd.V_elderB (by (with_reducible repeat (first|apply Kd.V_alloc|apply Kd.V_drewN|apply Kd.V_drew));exact HO269.out) gb273 (Nat.le_of_eq hg.symm)) hb);have n1_:=Aside0.mk (Kd.V_below (Kd.V_elderB (by (with_reducible repeat (first|apply Kd.V_alloc|apply Kd.V_drewN|apply Kd.V_drew));exact HO272.out) gb273 (Nat.le_of_eq hg.symm)) hb);have n2_:=Aside0.mk (blk_below (g:=gb266) (o:=.cells #[.slice A0_0 l0_0.length c0_0,.slice A0_1 l0_1.length c0_1] 43 (0,0)) (by (with_reducible repeat (first|refine blk_drewN ?_ _|refine blk_drew ?_|refine blk_alloc ?_ _));exact BK266.out) hb);have n3_:=Aside0.mk (below_step (by repeat (first|(with_reducible first|exact HB.out|apply below_alloc|apply pw_below_drewN|apply below_drew1|refine below_set ?_ GE266.out)|exact HB.out)) hb);have n4_:=Aside0.mk (hbox);have n5_:=Aside0.mk ((by rw [hg];exact (below_size (by repeat (first|(with_reducible first|exact HB.out|apply below_alloc|apply pw_below_drewN|apply below_drew1|refine below_set ?_ GE266.out)|exact HB.out))):w.heap.size≤gb273));have n6_:=Aside0.mk ((by rw [hg];exact (below_size (by repeat (first|(with_reducible first|exact HB.out|apply below_alloc|apply pw_below_drewN|apply below_drew1|refine below_set ?_ GE266.out)|exact HB.out))):w.heap.size≤gb273));have n7_:=Aside0.mk ((by rw [hg];exact Nat.ne_of_lt (blk_lt (g:=gb266) (o:=.cells #[.slice A0_0 l0_0.length c0_0,.slice A0_1 l0_1.length c0_1] 43 (0,0)) (by (with_reducible repeat (first|refine blk_drewN ?_ _|refine blk_drew ?_|refine blk_alloc ?_ _));exact BK266.out)):gb266 ≠ gb273));have n8_:=Aside0.mk ((by rw [hg];exact Nat.ne_of_gt (blk_lt (g:=gb266) (o:=.cells #[.slice A0_0 l0_0.length c0_0,.slice A0_1 l0_1.length c0_1] 43 (0,0)) (by (with_reducible repeat (first|refine blk_drewN ?_ _|refine blk_drew ?_|refine blk_alloc ?_ _));exact BK266.out)):gb273 ≠ gb266));clear HO269;clear HO272;clear BK266;clear HB;have HO269:=n0_;have HO272:=n1_;have BK266:=n2_;have HB:=n3_;have BK273:=n4_;have GW273:=n5_;have GE273:=n6_;have NB266_273:=n7_;have NB273_266:=n8_;clear n0_ n1_ n2_ n3_ n4_ n5_ n6_ n7_ n8_;clear hb hbox hg;obtain ⟨Ao26,co26,eo26⟩:=Kd.V_slice HO269.out;subst eo26;have hnb27:=NB273_266.out;have hnc27:=NB266_273.out;have hcz28_0:w25.cell? ⟨gb273,0,none⟩ = some (.slice none 0 0):=(blk_cell BK273.out 0).trans rfl;have hcz28_1:w25.cell? ⟨gb273,1,none⟩ = some (.slice none 0 0):=(blk_cell BK273.out 1).trans rfl;have hfz28_0:=blk_frozen BK273.out 0;have hfz28_1:=blk_frozen BK273.out 1;obtain ⟨Ao29,co29,eo29⟩:=Kd.V_slice HO272.out;subst eo29)|((with_reducible refine gate_callee (f:=29) rfl ?_);refine goesL_ (some 18) rfl rfl Try.func29 (by kernel_rfl) rfl #[.agg #[.slice Ao26 t267.length co26,.slice Ao29 t270.length co29]] rfl (by (try simp only [List.map_toArray,List.map_cons,List.map_nil]);first|done|rfl|(simp only [List.length_drop,List.length_take];rfl)) ?_;(with_reducible refine (spec_l1Write.calls k _ _ t267 _ _ t270 t274 _ ?side1 ?side2 ?side3 ?side4 A21.out).mono ?_);(case side1=>refine (Kd.V_reads' (e:=4) (base:=w.heap.size) (ok:=fun k_=>(k_ ≠ gb266∧k_ ≠ gb273)) (n:=t267.length) (c:=co26) ?_).2.2;exact (by (with_reducible repeat (first|apply Kd.V_alloc|apply Kd.V_drewN|apply Kd.V_drew));exact (Kd.V_mono (Kd.V_far (p:=⟨gb273,1,none⟩) (Kd.V_far (p:=⟨gb273,0,none⟩) (Kd.V_mono HO269.out (fun k_ hk=>(⟨hk,hk.2⟩:_∧k_ ≠ gb273))) (fun _ hk=>hk.2) (.slice Ao26 t267.length co26)) (fun _ hk=>hk.2) (.slice Ao29 t270.length co29)) (fun _ h_=>h_.1))));(case side2=>exact (Kd.V_reads' HO269.out).2.1);(case side3=>refine (Kd.V_reads' (e:=4) (base:=w.heap.size) (ok:=fun k_=>(k_ ≠ gb266∧k_ ≠ gb273)) (n:=t270.length) (c:=co29) ?_).2.2;exact (by (with_reducible repeat (first|apply Kd.V_alloc|apply Kd.V_drewN|apply Kd.V_drew));exact (Kd.V_mono (Kd.V_far (p:=⟨gb273,1,none⟩) (Kd.V_far (p:=⟨gb273,0,none⟩) (Kd.V_mono HO272.out (fun k_ hk=>(⟨hk,hk.2⟩:_∧k_ ≠ gb273))) (fun _ hk=>hk.2) (.slice Ao26 t267.length co26)) (fun _ hk=>hk.2) (.slice Ao29 t270.length co29)) (fun _ h_=>h_.1))));(case side4=>exact (Kd.V_reads' HO272.out).2.1);rintro e w30 ⟨rfl,hb⟩;refine ⟨_,rfl,?_⟩;have n0_:=Aside0.mk (Kd.V_below (by (with_reducible repeat (first|apply Kd.V_alloc|apply Kd.V_drewN|apply Kd.V_drew));exact (Kd.V_mono (Kd.V_far (p:=⟨gb273,1,none⟩) (Kd.V_far (p:=⟨gb273,0,none⟩) (Kd.V_mono HO269.out (fun k_ hk=>(⟨hk,hk.2⟩:_∧k_ ≠ gb273))) (fun _ hk=>hk.2) (.slice Ao26 t267.length co26)) (fun _ hk=>hk.2) (.slice Ao29 t270.length co29)) (fun _ h_=>h_.1))) hb);have n1_:=Aside0.mk (Kd.V_below (by (with_reducible repeat (first|apply Kd.V_alloc|apply Kd.V_drewN|apply Kd.V_drew));exact (Kd.V_mono (Kd.V_far (p:=⟨gb273,1,none⟩) (Kd.V_far (p:=⟨gb273,0,none⟩) (Kd.V_mono HO272.out (fun k_ hk=>(⟨hk,hk.2⟩:_∧k_ ≠ gb273))) (fun _ hk=>hk.2) (.slice Ao26 t267.length co26)) (fun _ hk=>hk.2) (.slice Ao29 t270.length co29)) (fun _ h_=>h_.1))) hb);have n2_:=Aside0.mk (blk_below (g:=gb266) (o:=.cells #[.slice A0_0 l0_0.length c0_0,.slice A0_1 l0_1.length c0_1] 43 (0,0)) (by (with_reducible repeat (first|refine blk_drewN ?_ _|refine blk_drew ?_|refine blk_alloc ?_ _));refine blk_far ?_ NB266_273.out _;(with_reducible repeat (first|refine blk_drewN ?_ _|refine blk_drew ?_|refine blk_alloc ?_ _));refine blk_far ?_ NB266_273.out _;(with_reducible repeat (first|refine blk_drewN ?_ _|refine blk_drew ?_|refine blk_alloc ?_ _));exact BK266.out) hb);have n3_:=Aside0.mk (blk_below (g:=gb273) (o:=.cells #[.slice Ao26 t267.length co26,.slice Ao29 t270.length co29] 43 (0,0)) (by (with_reducible repeat (first|refine blk_drewN ?_ _|refine blk_drew ?_|refine blk_alloc ?_ _));refine blk_put (cs:=#[.slice Ao26 t267.length co26,.slice none 0 0]) ?_ 1 _ rfl;(with_reducible repeat (first|refine blk_drewN ?_ _|refine blk_drew ?_|refine blk_alloc ?_ _));refine blk_put (cs:=#[.slice none 0 0,.slice none 0 0]) ?_ 0 _ rfl;(with_reducible repeat (first|refine blk_drewN ?_ _|refine blk_drew ?_|refine blk_alloc ?_ _));exact BK273.out) hb);have n4_:=Aside0.mk (below_step (by repeat (first|(with_reducible first|exact HB.out|apply below_alloc|apply pw_below_drewN|apply below_drew1|refine below_set ?_ GE266.out|refine below_set ?_ GE273.out)|exact HB.out)) hb);clear HO269;clear HO272;clear BK266;clear BK273;clear HB;have HO269:=n0_;have HO272:=n1_;have BK266:=n2_;have BK273:=n3_;have HB:=n4_;clear n0_ n1_ n2_ n3_ n4_;(try clear hb);(try clear hb2);(try clear hk);(try clear hi)))
   go_ret2
   exact ⟨by first|rfl|(simp [errW_none,errW_some] <;> rfl)|(simp [*,errW_none,errW_some] <;> rfl)|(simp [errW_none,errW_some];exact ⟨rfl,rfl⟩),by repeat (first|(with_reducible first|exact HB.out|apply below_alloc|apply pw_below_drewN|apply below_drew1|refine below_set ?_ GE266.out|refine below_set ?_ GE273.out)|exact HB.out)⟩

end Go.Proofs.Ytmedlhoahddbmaa.P

namespace Go.Proofs.Ytmedlhoahddbmaa.P
open Go.RowKit Go.Proofs.YtmedlhoahddbmaaW.PrintWords Go.Proofs.YtmedlhoahddbmaaW.PrintLast Go.Proofs.YtmedlhoahddbmaaW.PrintMore
attribute [local go_sem] max2_int min2_int max_two min_two max_three min_three max_four min_four   -- for this text's walks alone
set_option linter.unusedVariables false
set_option linter.unusedSimpArgs false

/-! ### spec_l6In: function 18 -/
def spec_l6In.f (a0:Int) (a1:Int) (a2:Int):Option (Bool):=if a0 ≥ a1 then (some (decide (a0≤a2))) else (some false)
set_option maxHeartbeats 8000000 in
set_option maxRecDepth 100000 in
theorem spec_l6In.calls (a0:Int) (a1:Int) (a2:Int) (r:Bool) (w:World) (h:spec_l6In.f a0 a1 a2 = some r) :
  Calls Try.prog 18 #[.int .i64 a0,.int .i64 a1,.int .i64 a2] w fun e w'=>e = .returned (.bool r)∧Drawn0 w w':=by
 have H:(if a0 ≥ a1 then (some (decide (a0≤a2))) else (some false)) = some r:=h
 clear h
 by_cases c4:a0 ≥ a1
 ·rw [if_pos c4] at H
  have c4b0:decide (a1≤a0) = true:=decide_eq_true c4
  clear c4
  obtain rfl:=Option.some.inj H
  go_enter Try.func18,Try.ntmps18
  go_wp2
  go_ret
  exact ⟨by first|rfl|(simp;done)|(simp [*];done),by repeat (first|exact Drawn0.refl _|apply Drawn0.step)⟩
 ·rw [if_neg c4] at H
  have c4b0:decide (a1≤a0) = false:=decide_eq_false c4
  clear c4
  obtain rfl:=Option.some.inj H
  go_enter Try.func18,Try.ntmps18
  go_wp2
  go_ret
  exact ⟨by first|rfl|(simp;done)|(simp [*];done),by repeat (first|exact Drawn0.refl _|apply Drawn0.step)⟩

end Go.Proofs.Ytmedlhoahddbmaa.P

namespace Go.Proofs.Ytmedlhoahddbmaa.P
open Go.RowKit Go.Proofs.YtmedlhoahddbmaaW.PrintWords Go.Proofs.YtmedlhoahddbmaaW.PrintLast Go.Proofs.YtmedlhoahddbmaaW.PrintMore
attribute [local go_sem] max2_int min2_int max_two min_two max_three min_three max_four min_four   -- for this text's walks alone
set_option linter.unusedVariables false
set_option linter.unusedSimpArgs false

/-- A state of type 51 at block g of W; what its slices lead to came in by w0. -/
def IsS51 (w0 W:World) (g:Nat) (f0:List Int) (f1:Int):Prop:=∃ A0 c0,W.heap[g]? = some (.cells #[.slice A0 f0.length c0,.int .i64 f1] 51 (0,0))∧w0.heap.size≤g∧Kd.C (Kd.int .u8) w0 A0 f0.length f0
theorem IsS51.grown {w0 W:World} {g:Nat} {f0:List Int} {f1:Int} {W1:World} {row:Option Nat} (h:IsS51 w0 W g f0 f1) (hw:W.grownBy W1 row) (hne:some g ≠ row):IsS51 w0 W1 g f0 f1:=by
 obtain ⟨A0,c0,hb,hg,hr0⟩:=h
 exact ⟨A0,c0,blk_grown hb hw hne,hg,hr0⟩
theorem IsS51.own_neN {w0 W:World} {g:Nat} {f0:List Int} {f1:Int} {α:Type} {d:Kd α} {e:Nat} {base:Nat} {ok:Nat → Prop} {v:Value} {xs:List α} (h:IsS51 w0 W g f0 f1) (ho:Kd.N d e W base ok v xs) (ht:e ≠ 51):some g ≠ v.ownBlock:=by
 obtain ⟨A0,c0,hb,hg,hr0⟩:=h
 exact Kd.N_ne ho hb ht
theorem IsS51.fresh {w0 W:World} {g:Nat} {f0:List Int} {f1:Int} (h:IsS51 w0 W g f0 f1):∀ k,W.heap.size≤k → k ≠ g:=by
 obtain ⟨A0,c0,hb,hg,hr0⟩:=h
 exact Kd.freshB hb
theorem IsS51.kept {w0 W:World} {g:Nat} {f0:List Int} {f1:Int} {W1:World} {S:Nat → Prop} (h:IsS51 w0 W g f0 f1) (hk:Kept W W1 S) (hne:¬ S g):IsS51 w0 W1 g f0 f1:=by
 obtain ⟨A0,c0,hb,hg,hr0⟩:=h
 exact ⟨A0,c0,blk_kept hb hk hne,hg,hr0⟩
theorem IsS51.below {w0 W:World} {g:Nat} {f0:List Int} {f1:Int} {W1:World} (h:IsS51 w0 W g f0 f1) (hw:Below W.heap.size W W1):IsS51 w0 W1 g f0 f1:=h.grown (grown_of_below hw none) (by simp)
theorem IsS51.alloc {w0 W:World} {g:Nat} {f0:List Int} {f1:Int} (h:IsS51 w0 W g f0 f1) (o:Obj):IsS51 w0 (W.alloc o) g f0 f1:=h.below (below_alloc (Below.refl _ _) o)
theorem IsS51.drewN {w0 W:World} {g:Nat} {f0:List Int} {f1:Int} (h:IsS51 w0 W g f0 f1) (m:Nat):IsS51 w0 (W.drewN m) g f0 f1:=h
theorem IsS51.drew {w0 W:World} {g:Nat} {f0:List Int} {f1:Int} (h:IsS51 w0 W g f0 f1):IsS51 w0 W.drew g f0 f1:=h
theorem IsS51.at_ {w0 W:World} {g:Nat} {f0:List Int} {f1:Int} {w':World} {m:Nat} (hq:W.drewN m = w') (h:IsS51 w0 W g f0 f1):IsS51 w0 w' g f0 f1:=by subst hq;exact IsS51.drewN h m
theorem IsS51.apart {w0 W:World} {g:Nat} {f0:List Int} {f1:Int} {α:Type} {d:Kd α} {e:Nat} {base:Nat} {ok:Nat → Prop} {v:Value} {xs:List α} (h:IsS51 w0 W g f0 f1) (ho:d.R e W base ok v xs) (ht:∀ q,q ∈ e :: d.E → q ≠ 51):d.R e W base (fun k=>ok k∧k ≠ g) v xs:=by
 obtain ⟨A0,c0,hb,hg,hr0⟩:=h
 exact Kd.R_types ho hb ht
theorem IsS51.own_ne {w0 W:World} {g:Nat} {f0:List Int} {f1:Int} {α:Type} {d:Kd α} {e:Nat} {base:Nat} {ok:Nat → Prop} {v:Value} {xs:List α} (h:IsS51 w0 W g f0 f1) (ho:d.R e W base ok v xs) (ht:e ≠ 51):some g ≠ v.ownBlock:=by
 obtain ⟨A0,c0,hb,hg,hr0⟩:=h
 exact Kd.R_ne ho hb ht
theorem IsS51.apartQ {w0 W:World} {g:Nat} {f0:List Int} {f1:Int} {α:Type} {d:Kd α} {e:Nat} {base:Nat} {ok:Nat → Prop} {v:Value} {xs:List α} (h:IsS51 w0 W g f0 f1) (ho:d.Q e W base ok v xs) (ht:∀ q,q ∈ e :: d.E → q ≠ 51):d.Q e W base (fun k=>ok k∧k ≠ g) v xs:=by
 obtain ⟨A0,c0,hb,hg,hr0⟩:=h
 exact Kd.Q_types ho hb ht
theorem IsS51.own_neQ {w0 W:World} {g:Nat} {f0:List Int} {f1:Int} {α:Type} {d:Kd α} {e:Nat} {base:Nat} {ok:Nat → Prop} {v:Value} {xs:List α} (h:IsS51 w0 W g f0 f1) (ho:d.Q e W base ok v xs) (ht:e ≠ 51):some g ≠ v.ownBlock:=by
 obtain ⟨A0,c0,hb,hg,hr0⟩:=h
 exact Kd.Q_ne ho hb ht
theorem IsS51.apartS {w0 W:World} {g:Nat} {f0:List Int} {f1:Int} {α:Type} {d:Kd α} {e:Nat} {base:Nat} {ok:Nat → Prop} {v:Value} {xs:List α} (h:IsS51 w0 W g f0 f1) (ho:d.S e W base ok v xs) (ht:∀ q,q ∈ e :: d.E → q ≠ 51):d.S e W base (fun k=>ok k∧k ≠ g) v xs:=by
 obtain ⟨A0,c0,hb,hg,hr0⟩:=h
 exact Kd.S_types ho hb ht
theorem IsS51.own_neS {w0 W:World} {g:Nat} {f0:List Int} {f1:Int} {α:Type} {d:Kd α} {e:Nat} {base:Nat} {ok:Nat → Prop} {v:Value} {xs:List α} (h:IsS51 w0 W g f0 f1) (ho:d.S e W base ok v xs) (ht:e ≠ 51):some g ≠ v.ownBlock:=by
 obtain ⟨A0,c0,hb,hg,hr0⟩:=h
 exact Kd.S_ne ho hb ht
theorem IsS51.lt {w0 W:World} {g:Nat} {f0:List Int} {f1:Int} (h:IsS51 w0 W g f0 f1):g < W.heap.size:=by
 obtain ⟨A0,c0,hb,hg,hr0⟩:=h
 exact blk_lt hb
theorem IsS51.ge {w0 W:World} {g:Nat} {f0:List Int} {f1:Int} (h:IsS51 w0 W g f0 f1):w0.heap.size≤g:=by
 obtain ⟨A0,c0,hb,hg,hr0⟩:=h
 exact hg
theorem IsS51.ne_blk {w0 W:World} {g:Nat} {f0:List Int} {f1:Int} {a:Nat} {cs:Array Value} {t:TypeId} {fr:Nat × Nat} (h:IsS51 w0 W g f0 f1) (hb2:W.heap[a]? = some (.cells cs t fr)) (ht:t ≠ 51):g ≠ a:=by
 obtain ⟨A0,c0,hb,hg,hr0⟩:=h
 rintro rfl
 rw [hb] at hb2
 injection hb2 with hb2
 injection hb2 with _ ht2
 exact ht ht2.symm
theorem IsS51.far {w0 W:World} {g:Nat} {f0:List Int} {f1:Int} {p:Addr} (h:IsS51 w0 W g f0 f1) (hne:g ≠ p.block) (u:Value):IsS51 w0 (W.setCell p u) g f0 f1:=by
 obtain ⟨A0,c0,hb,hg,hr0⟩:=h
 exact ⟨A0,c0,blk_far hb hne u,hg,hr0⟩
theorem cellS51_0 {W:World} {g:Nat} {A0:Option Addr} {c0:Nat} {f0:List Int} {f1:Int} (h:W.heap[g]? = some (.cells #[.slice A0 f0.length c0,.int .i64 f1] 51 (0,0))):W.cell? ⟨g,0,none⟩ = some (.slice A0 f0.length c0):=(blk_cell h 0).trans rfl
theorem cellS51_1 {W:World} {g:Nat} {A0:Option Addr} {c0:Nat} {f0:List Int} {f1:Int} (h:W.heap[g]? = some (.cells #[.slice A0 f0.length c0,.int .i64 f1] 51 (0,0))):W.cell? ⟨g,1,none⟩ = some (.int .i64 f1):=(blk_cell h 1).trans rfl
theorem IsS51.set_1 {w0 W:World} {g:Nat} {f0:List Int} {f1:Int} (h:IsS51 w0 W g f0 f1) (x:Int):IsS51 w0 (W.setCell ⟨g,1,none⟩ (.int .i64 x)) g f0 x:=by
 obtain ⟨A0,c0,hb,hg,hr0⟩:=h
 exact ⟨A0,c0,by simpa using blk_set hb 1 (.int .i64 x),hg,hr0⟩
theorem IsS51.new (w0 W:World) (A0:Option Addr) (c0:Nat) (f0:List Int) (f1:Int) (hB:Below w0.heap.size w0 W) (hr0:Kd.C (Kd.int .u8) w0 A0 f0.length f0):IsS51 w0 (W.alloc (.cells #[.slice A0 f0.length c0,.int .i64 f1] 51)) W.heap.size f0 f1:=⟨A0,c0,by simpa using heap_alloc_new W _,hB.size,hr0⟩

/-! ### spec_l6Open: function 10 -/
def spec_l6Open.f (l0:List Int):Option (List Int × Int):=if (l0.length:Int) > 2000 then (if 2000≤(l0.length:Int) then (some (l0.take 2000,0)) else (none)) else (some (l0,0))
set_option maxHeartbeats 8000000 in
set_option maxRecDepth 100000 in
theorem spec_l6Open.calls (A0:Option Addr) (c0:Nat) (l0:List Int) (r1:List Int) (r2:Int) (w0 w:World) (hB:Below w0.heap.size w0 w) (hr0:Kd.C (Kd.int .u8) w0 A0 l0.length l0) (hc0:l0.length≤c0) (h:spec_l6Open.f l0 = some (r1,r2)) :
  Calls Try.prog 10 #[.slice A0 l0.length c0] w fun e w'=>∃ g_:Nat,e = .returned (.pointer (some ⟨g_,0,none⟩))∧IsS51 w0 w' g_ r1 r2∧Below w0.heap.size w0 w'∧Below w.heap.size w w':=by
 have hu51:=Try.underlying51
 have HR0:=Aside0.mk hr0
 have HC0:=Aside0.mk hc0
 clear hr0 hc0
 have HBW:=Aside0.mk (Below.refl w.heap.size w)
 have HW0:=Aside0.mk hB.size
 have HB:=Aside0.mk hB
 clear hB
 have H:(if (l0.length:Int) > 2000 then (if 2000≤(l0.length:Int) then (some (l0.take 2000,0)) else (none)) else (some (l0,0))) = some (r1,r2):=h
 clear h
 by_cases c2:(l0.length:Int) > 2000
 ·rw [if_pos c2] at H
  have c2b0:decide (2000 < (l0.length:Int)) = true:=decide_eq_true c2
  have c2b1:decide (2000 < l0.length) = true:=decide_eq_true (by omega)
  clear c2
  by_cases c3:2000≤(l0.length:Int)
  ·rw [if_pos c3] at H
   have c3b0:=eq_true c3
   have c3b1:decide (2000≤(l0.length:Int)) = true:=decide_eq_true c3
   clear c3
   simp only [Option.some.injEq,Prod.mk.injEq] at H
   obtain ⟨rfl,rfl⟩:=H
   obtain ⟨i04,hi04,_,hsz4,_⟩:=info_parts info5
   obtain ⟨hcut4,hA4,hC4⟩:=print_take_of (P:=Try.prog) (Value.int .u8) 0 22 5 .i64 Try.underlying22 hi04 hsz4 A0 c0 l0 2000 (by omega) (of_decide_eq_true (by first|(with_reducible assumption)|assumption)) HC0.out
   have HR101:=Aside0.mk (Kd.C_of_reads (h1:=fun _=>rfl) (hA4 _ (Kd.reads_of_C HR0.out)))
   have HC101:=Aside0.mk hC4
   clear hA4 hC4 hi04 hsz4
   go_enter Try.func10,Try.ntmps10
   go_wp2_with (first|((with_reducible refine gate_dst (N:=10) rfl ?_);refine box_event ?hg (N:=10) ?hd (cs:=#[.slice A0 (l0.take 2000).length c0,.int .i64 0]) (t:=51) ?hr ?_;(case hd=>rfl);(case hg=>rfl);(case hr=>first|(go_simp;done)|(go_simp;rfl));intro gb102 hg w5 hbox hb;have n0_:=Aside0.mk (below_step HBW.out hb);have n1_:=Aside0.mk (below_step (by repeat (first|(with_reducible first|exact HB.out|apply below_alloc|apply pw_below_drewN|apply below_drew1)|exact HB.out)) hb);have n2_:=Aside0.mk (hbox);have n3_:=Aside0.mk ((by rw [hg];exact (below_size (by repeat (first|(with_reducible first|exact HBW.out|apply below_alloc|apply pw_below_drewN|apply below_drew1)|exact HBW.out))):w.heap.size≤gb102));have n4_:=Aside0.mk ((Nat.le_trans HW0.out (by rw [hg];exact (below_size (by repeat (first|(with_reducible first|exact HBW.out|apply below_alloc|apply pw_below_drewN|apply below_drew1)|exact HBW.out))):w.heap.size≤gb102):w0.heap.size≤gb102));clear HBW;clear HB;have HBW:=n0_;have HB:=n1_;have BK102:=n2_;have GW102:=n3_;have GE102:=n4_;clear n0_ n1_ n2_ n3_ n4_;clear hb hbox hg))
   go_ret
   exact ⟨_,rfl,(show IsS51 w0 _ gb102 (l0.take 2000) 0 from ⟨_,_,by (with_reducible repeat (first|refine blk_drewN ?_ _|refine blk_drew ?_|refine blk_alloc ?_ _));exact BK102.out,GE102.out,HR101.out⟩),by repeat (first|(with_reducible first|exact HB.out|apply below_alloc|apply pw_below_drewN|apply below_drew1|refine below_set ?_ GE102.out)|exact HB.out),by repeat (first|(with_reducible first|exact HBW.out|apply below_alloc|apply pw_below_drewN|apply below_drew1|refine below_set ?_ GW102.out)|exact HBW.out)⟩
  ·rw [if_neg c3] at H
   exact absurd H (by simp)
 ·rw [if_neg c2] at H
  have c2b0:decide (2000 < (l0.length:Int)) = false:=decide_eq_false c2
  have c2b1:decide (2000 < l0.length) = false:=decide_eq_false (by omega)
  clear c2
  simp only [Option.some.injEq,Prod.mk.injEq] at H
  obtain ⟨rfl,rfl⟩:=H
  go_enter Try.func10,Try.ntmps10
  go_wp2_with (first|((with_reducible refine gate_dst (N:=10) rfl ?_);refine box_event ?hg (N:=10) ?hd (cs:=#[.slice A0 l0.length c0,.int .i64 0]) (t:=51) ?hr ?_;(case hd=>rfl);(case hg=>rfl);(case hr=>first|(go_simp;done)|(go_simp;rfl));intro gb103 hg w6 hbox hb;have n0_:=Aside0.mk (below_step HBW.out hb);have n1_:=Aside0.mk (below_step (by repeat (first|(with_reducible first|exact HB.out|apply below_alloc|apply pw_below_drewN|apply below_drew1)|exact HB.out)) hb);have n2_:=Aside0.mk (hbox);have n3_:=Aside0.mk ((by rw [hg];exact (below_size (by repeat (first|(with_reducible first|exact HBW.out|apply below_alloc|apply pw_below_drewN|apply below_drew1)|exact HBW.out))):w.heap.size≤gb103));have n4_:=Aside0.mk ((Nat.le_trans HW0.out (by rw [hg];exact (below_size (by repeat (first|(with_reducible first|exact HBW.out|apply below_alloc|apply pw_below_drewN|apply below_drew1)|exact HBW.out))):w.heap.size≤gb103):w0.heap.size≤gb103));clear HBW;clear HB;have HBW:=n0_;have HB:=n1_;have BK103:=n2_;have GW103:=n3_;have GE103:=n4_;clear n0_ n1_ n2_ n3_ n4_;clear hb hbox hg))
  go_ret
  exact ⟨_,rfl,(show IsS51 w0 _ gb103 l0 0 from ⟨_,_,by (with_reducible repeat (first|refine blk_drewN ?_ _|refine blk_drew ?_|refine blk_alloc ?_ _));exact BK103.out,GE103.out,HR0.out⟩),by repeat (first|(with_reducible first|exact HB.out|apply below_alloc|apply pw_below_drewN|apply below_drew1|refine below_set ?_ GE103.out)|exact HB.out),by repeat (first|(with_reducible first|exact HBW.out|apply below_alloc|apply pw_below_drewN|apply below_drew1|refine below_set ?_ GW103.out)|exact HBW.out)⟩

end Go.Proofs.Ytmedlhoahddbmaa.P

namespace Go.Proofs.Ytmedlhoahddbmaa.P
open Go.RowKit Go.Proofs.YtmedlhoahddbmaaW.PrintWords Go.Proofs.YtmedlhoahddbmaaW.PrintLast Go.Proofs.YtmedlhoahddbmaaW.PrintMore
attribute [local go_sem] max2_int min2_int max_two min_two max_three min_three max_four min_four   -- for this text's walks alone
set_option linter.unusedVariables false
set_option linter.unusedSimpArgs false

/-! ### spec_l6Rd_pick: function 11 -/
def spec_l6Rd_pick.j0:Nat → Int → Bool → List Int → Int → Option (Int × Int)
 | 0,_,_,_,_=>none
 | k + 1,x1,x24,x1000,x1001=>if x24 = true then (some (0,x1001)) else (if (wrap64 (x1001 - 1)) < (x1000.length:Int) then (if 0≤(wrap64 (x1001 - 1)) then (if x1 = 0 then (none) else (some (Int.tmod (wrap64 (rd x1000 (wrap64 (x1001 - 1)))) x1,x1001))) else (none)) else (if (x1000.length:Int) = 0 then (none) else (if 0≤(Int.tmod (wrap64 (x1001 - 1)) (x1000.length:Int)) then (if (Int.tmod (wrap64 (x1001 - 1)) (x1000.length:Int)) < (x1000.length:Int) then (if 0≤(Int.tmod (wrap64 ((wrap64 ((wrap64 (x1001 - 1)) * 7)) + 3)) (x1000.length:Int)) then (if (Int.tmod (wrap64 ((wrap64 ((wrap64 (x1001 - 1)) * 7)) + 3)) (x1000.length:Int)) < (x1000.length:Int) then (if x1 = 0 then (none) else (some (Int.tmod (Go.bits .xor .i64 (wrap64 ((wrap64 ((wrap64 ((wrap64 ((wrap64 (rd x1000 (Int.tmod (wrap64 (x1001 - 1)) (x1000.length:Int)))) * 131)) + (wrap64 ((wrap64 (rd x1000 (Int.tmod (wrap64 ((wrap64 ((wrap64 (x1001 - 1)) * 7)) + 3)) (x1000.length:Int)))) * 1117)))) + (wrap64 ((wrap64 (x1001 - 1)) * 29)))) + (wrap64 ((wrap64 (Int.tdiv (wrap64 (x1001 - 1)) (x1000.length:Int))) * 53)))) (wrap64 (Int.tdiv (wrap64 ((wrap64 ((wrap64 ((wrap64 ((wrap64 (rd x1000 (Int.tmod (wrap64 (x1001 - 1)) (x1000.length:Int)))) * 131)) + (wrap64 ((wrap64 (rd x1000 (Int.tmod (wrap64 ((wrap64 ((wrap64 (x1001 - 1)) * 7)) + 3)) (x1000.length:Int)))) * 1117)))) + (wrap64 ((wrap64 (x1001 - 1)) * 29)))) + (wrap64 ((wrap64 (Int.tdiv (wrap64 (x1001 - 1)) (x1000.length:Int))) * 53)))) 64))) x1,x1001))) else (none)) else (none)) else (none)) else (none))))
def spec_l6Rd_pick.f (k:Nat) (s0_0:List Int) (s0_1:Int) (a1:Int):Option (Int × Int):=if a1 < 1 then (spec_l6Rd_pick.j0 k a1 true s0_0 (wrap64 (s0_1 + 1))) else (spec_l6Rd_pick.j0 k a1 ((s0_0.length:Int) == 0) s0_0 (wrap64 (s0_1 + 1)))
theorem spec_l6Rd_pick.mono_l:∀ k,(∀ y0 y1 y2 y3,LeO (spec_l6Rd_pick.j0 k y0 y1 y2 y3) (spec_l6Rd_pick.j0 (k + 1) y0 y1 y2 y3))
 | 0=>fun _ _ _ _ r h=>by simp [spec_l6Rd_pick.j0] at h
 | k + 1=>by
  have ih0:=spec_l6Rd_pick.mono_l k
  ·intro y0 y1 y2 y3
   unfold spec_l6Rd_pick.j0
   repeat' first
   | (with_reducible exact ih0 _ _ _ _)
   | (with_reducible exact LeO.refl _)
   | (with_reducible exact LeO.none _)
   | (with_reducible refine LeO.ite ?_ ?_)
   | (with_reducible refine LeO.bind ?_ (fun _=>?_))
   | exact ih0 _ _ _ _
   | exact LeO.none _
   | refine LeO.ite ?_ ?_
   | refine LeO.bind ?_ (fun _=>?_)
theorem spec_l6Rd_pick.mono:∀ a0 a1 a2 k,LeO (spec_l6Rd_pick.f k a0 a1 a2) (spec_l6Rd_pick.f (k + 1) a0 a1 a2):=by
 intro a0 a1 a2 k
 have ih0:=spec_l6Rd_pick.mono_l k
 unfold spec_l6Rd_pick.f
 repeat' first
   | (with_reducible exact ih0 _ _ _ _)
   | (with_reducible exact LeO.refl _)
   | (with_reducible exact LeO.none _)
   | (with_reducible refine LeO.ite ?_ ?_)
   | (with_reducible refine LeO.bind ?_ (fun _=>?_))
   | exact ih0 _ _ _ _
   | exact LeO.none _
   | refine LeO.ite ?_ ?_
   | refine LeO.bind ?_ (fun _=>?_)
set_option maxHeartbeats 8000000 in
set_option maxRecDepth 100000 in
theorem spec_l6Rd_pick.calls (k:Nat) (g:Nat) (s0_0:List Int) (s0_1:Int) (a1:Int) (r1:Int) (r2:Int) (w0 w:World) (hI:IsS51 w0 w g s0_0 s0_1) (hB:Below w0.heap.size w0 w) (h:spec_l6Rd_pick.f k s0_0 s0_1 a1 = some (r1,r2)) :
  Calls Try.prog 11 #[.pointer (some ⟨g,0,none⟩),.int .i64 a1] w fun e w'=>e = .returned (.int .i64 r1)∧IsS51 w0 w' g s0_0 r2∧Below w0.heap.size w0 w'∧KeepBut w w' g none:=by
 have HI0:=Aside0.mk hI
 have HK:=Aside0.mk (KeepBut.refl w g none)
 have HL:=Aside0.mk hB.size
 clear hI
 have HW0:=Aside0.mk hB.size
 have HB:=Aside0.mk hB
 clear hB
 have H:(if a1 < 1 then (spec_l6Rd_pick.j0 k a1 true s0_0 (wrap64 (s0_1 + 1))) else (spec_l6Rd_pick.j0 k a1 ((s0_0.length:Int) == 0) s0_0 (wrap64 (s0_1 + 1)))) = some (r1,r2):=h
 clear h
 have HC3:=Aside0.mk H
 clear H
 obtain ⟨ASz4_0,cSz4_0,HGz4,hgz4,HSz4_0⟩:=HI0.out
 have hcz4_0:=cellS51_0 HGz4
 have hcz4_1:=cellS51_1 HGz4
 have hfz4_1:=blk_frozen HGz4 1
 clear HGz4 hgz4
 go_enter Try.func11,Try.ntmps11
 go_upto_region 2 with (fail)
 repeat (go_quiet (fail);go_upto_region 2 with (fail))
 go_cut [24] (fun v24 wc=>∃ (kq:Nat) (x24_2:Bool),v24 = .bool x24_2∧Aside0 (spec_l6Rd_pick.j0 kq a1 x24_2 s0_0 (wrap64 (s0_1 + 1)) = some (r1,r2))∧Aside0 (kq≤k)∧Aside0 (IsS51 w0 wc g s0_0 (wrap64 (s0_1 + 1)))∧Aside0 (KeepBut w wc g none)∧Aside0 (Below w0.heap.size w0 wc))
 case first =>
  have H:=HC3.out
  clear HC3
  by_cases c5:a1 < 1
  ·rw [if_pos c5] at H
   have c5b0:decide (a1 < 1) = true:=decide_eq_true c5
   clear c5
   (first|rw [c5b0]|(simp only [i64_w,i32_w];rw [c5b0])|skip)
   have H':=Aside0.mk H
   clear H
   go_wp2
   repeat (go_quiet (fail);try go_wp2)
   go_meet
   case rel=>exact ⟨_,(true),(by first|rfl|(simp;done)|(simp [*];done)|(simp [Int.tmod_eq_emod_of_nonneg];done)),H',⟨by first|omega|exact Nat.le_refl _⟩,⟨by repeat (first|(with_reducible first|exact HI0.out|apply IsS51.alloc|apply IsS51.drewN|apply IsS51.drew|apply IsS51.set_1)|exact HI0.out)⟩,⟨by repeat (first|(with_reducible first|exact HK.out|apply KeepBut.set_|apply keep_drewN|apply keep_drew|apply keep_alloc)|exact HK.out)⟩,⟨by repeat (first|(with_reducible first|exact HB.out|apply below_alloc|apply pw_below_drewN|apply below_drew1|refine below_set ?_ (IsS51.ge HI0.out))|exact HB.out)⟩⟩
  ·rw [if_neg c5] at H
   have c5b0:decide (a1 < 1) = false:=decide_eq_false c5
   clear c5
   (first|rw [c5b0]|(simp only [i64_w,i32_w];rw [c5b0])|skip)
   have H':=Aside0.mk H
   clear H
   obtain ⟨ASz6_0,cSz6_0,HGz6,hgz6,HSz6_0⟩:=HI0.out
   have hcz6_0:=cellS51_0 HGz6
   have hcz6_1:=cellS51_1 HGz6
   have hfz6_1:=blk_frozen HGz6 1
   clear HGz6 hgz6
   go_wp2
   repeat (go_quiet (fail);try go_wp2)
   go_meet
   case rel=>exact ⟨_,(((s0_0.length:Int) == 0)),(by first|rfl|(simp;done)|(simp [*];done)|(simp [Int.tmod_eq_emod_of_nonneg];done)),H',⟨by first|omega|exact Nat.le_refl _⟩,⟨by repeat (first|(with_reducible first|exact HI0.out|apply IsS51.alloc|apply IsS51.drewN|apply IsS51.drew|apply IsS51.set_1)|exact HI0.out)⟩,⟨by repeat (first|(with_reducible first|exact HK.out|apply KeepBut.set_|apply keep_drewN|apply keep_drew|apply keep_alloc)|exact HK.out)⟩,⟨by repeat (first|(with_reducible first|exact HB.out|apply below_alloc|apply pw_below_drewN|apply below_drew1|refine below_set ?_ (IsS51.ge HI0.out))|exact HB.out)⟩⟩
 case rest =>
  clear HC3
  try clear c1
  try clear p2
  try clear c5
  try clear c5b0
  try clear p6
  try clear hcz4_0
  try clear hcz4_1
  try clear hcz6_0
  try clear hcz6_1
  try clear hfz4_1
  try clear hfz6_1
  obtain ⟨kq,x24_2,rfl,HA,HJ2,HI0,HK,HB⟩:=hcut
  cases kq with
  | zero=>exact absurd HA.out (by simp [spec_l6Rd_pick.j0])
  | succ kj2 =>
   have H:=HA.out
   clear HA
   simp only [spec_l6Rd_pick.j0] at H
   by_cases c7:x24_2 = true
   ·subst c7
    have H1:(some (0,(wrap64 (s0_1 + 1)))) = some (r1,r2):=by rw [if_pos rfl] at H;exact H
    clear H
    have H:=H1
    clear H1
    simp only [Option.some.injEq,Prod.mk.injEq] at H
    obtain ⟨rfl,rfl⟩:=H
    go_wp2
    repeat (go_quiet (fail);try go_wp2)
    go_ret
    exact ⟨by first|rfl|(simp [errW_none,errW_some] <;> rfl)|(simp [*,errW_none,errW_some] <;> rfl)|(simp [errW_none,errW_some];exact ⟨rfl,rfl⟩),by repeat (first|(with_reducible first|exact HI0.out|apply IsS51.alloc|apply IsS51.drewN|apply IsS51.drew|apply IsS51.set_1)|exact HI0.out),by repeat (first|(with_reducible first|exact HB.out|apply below_alloc|apply pw_below_drewN|apply below_drew1|refine below_set ?_ (IsS51.ge HI0.out))|exact HB.out),by repeat (first|(with_reducible first|exact HK.out|apply KeepBut.set_|apply keep_drewN|apply keep_drew|apply keep_alloc)|exact HK.out)⟩
   ·replace c7:=Bool.eq_false_iff.mpr c7
    subst c7
    have H1:(if (wrap64 ((wrap64 (s0_1 + 1)) - 1)) < (s0_0.length:Int) then (if 0≤(wrap64 ((wrap64 (s0_1 + 1)) - 1)) then (if a1 = 0 then (none) else (some (Int.tmod (wrap64 (rd s0_0 (wrap64 ((wrap64 (s0_1 + 1)) - 1)))) a1,(wrap64 (s0_1 + 1))))) else (none)) else (if (s0_0.length:Int) = 0 then (none) else (if 0≤(Int.tmod (wrap64 ((wrap64 (s0_1 + 1)) - 1)) (s0_0.length:Int)) then (if (Int.tmod (wrap64 ((wrap64 (s0_1 + 1)) - 1)) (s0_0.length:Int)) < (s0_0.length:Int) then (if 0≤(Int.tmod (wrap64 ((wrap64 ((wrap64 ((wrap64 (s0_1 + 1)) - 1)) * 7)) + 3)) (s0_0.length:Int)) then (if (Int.tmod (wrap64 ((wrap64 ((wrap64 ((wrap64 (s0_1 + 1)) - 1)) * 7)) + 3)) (s0_0.length:Int)) < (s0_0.length:Int) then (if a1 = 0 then (none) else (some (Int.tmod (Go.bits .xor .i64 (wrap64 ((wrap64 ((wrap64 ((wrap64 ((wrap64 (rd s0_0 (Int.tmod (wrap64 ((wrap64 (s0_1 + 1)) - 1)) (s0_0.length:Int)))) * 131)) + (wrap64 ((wrap64 (rd s0_0 (Int.tmod (wrap64 ((wrap64 ((wrap64 ((wrap64 (s0_1 + 1)) - 1)) * 7)) + 3)) (s0_0.length:Int)))) * 1117)))) + (wrap64 ((wrap64 ((wrap64 (s0_1 + 1)) - 1)) * 29)))) + (wrap64 ((wrap64 (Int.tdiv (wrap64 ((wrap64 (s0_1 + 1)) - 1)) (s0_0.length:Int))) * 53)))) (wrap64 (Int.tdiv (wrap64 ((wrap64 ((wrap64 ((wrap64 ((wrap64 (rd s0_0 (Int.tmod (wrap64 ((wrap64 (s0_1 + 1)) - 1)) (s0_0.length:Int)))) * 131)) + (wrap64 ((wrap64 (rd s0_0 (Int.tmod (wrap64 ((wrap64 ((wrap64 ((wrap64 (s0_1 + 1)) - 1)) * 7)) + 3)) (s0_0.length:Int)))) * 1117)))) + (wrap64 ((wrap64 ((wrap64 (s0_1 + 1)) - 1)) * 29)))) + (wrap64 ((wrap64 (Int.tdiv (wrap64 ((wrap64 (s0_1 + 1)) - 1)) (s0_0.length:Int))) * 53)))) 64))) a1,(wrap64 (s0_1 + 1))))) else (none)) else (none)) else (none)) else (none)))) = some (r1,r2):=by rw [if_neg (show ¬ (false = true) by decide)] at H;exact H
    clear H
    have H:=H1
    clear H1
    by_cases c8:(wrap64 ((wrap64 (s0_1 + 1)) - 1)) < (s0_0.length:Int)
    ·rw [if_pos c8] at H
     have c8b0:decide ((wrap64 ((wrap64 (s0_1 + 1)) - 1)) < (s0_0.length:Int)) = true:=decide_eq_true c8
     clear c8
     obtain ⟨ji9,hji9⟩:∃ j_:Int,(wrap64 ((wrap64 (s0_1 + 1)) - 1)) = j_:=⟨_,rfl⟩
     replace H:(if 0≤(ji9) then (if a1 = 0 then (none) else (some (Int.tmod (wrap64 (rd s0_0 (ji9))) a1,(wrap64 (s0_1 + 1))))) else (none)) = some (r1,r2):=by first|(rw [hji9] at H;exact H)|(simp only [hji9] at H ⊢;exact H)
     (try rw [hji9] at c8b0)
     have hji9w:(IntKind.i64.wrap ((wrap64 (s0_1 + 1)) - 1)) = ji9:=(i64_w _).trans hji9
     by_cases c10:0≤(ji9)
     ·rw [if_pos c10] at H
      have c10b0:decide (0≤(ji9)) = true:=decide_eq_true c10
      clear c10
      by_cases c11:a1 = 0
      ·rw [if_pos c11] at H
       exact absurd H (by simp)
      ·rw [if_neg c11] at H
       have c11b0:(a1 == 0) = false:=beq_eq_false_iff_ne.mpr c11
       have c11b1:(a1 != 0) = true:=bne_iff_ne.mpr c11
       simp only [Option.some.injEq,Prod.mk.injEq] at H
       obtain ⟨rfl,rfl⟩:=H
       obtain ⟨ASz12_0,cSz12_0,HGz12,hgz12,HSz12_0⟩:=HI0.out
       have hcz12_0:=cellS51_0 HGz12
       have hcz12_1:=cellS51_1 HGz12
       have hfz12_1:=blk_frozen HGz12 1
       clear HGz12 hgz12
       have p104:0≤((ji9):Int):=of_decide_eq_true (by first|(with_reducible assumption)|assumption)
       have q104:(ji9) < (s0_0.length:Int):=of_decide_eq_true (by first|(with_reducible assumption)|assumption)
       obtain ⟨ad104,e104,hx104_0⟩:=Kd.at_int HSz12_0 (ji9) p104 q104
       cases e104
       replace hx104_0:=pw_cell_below HB.out hx104_0
       replace p104:=eq_true p104
       replace q104:=eq_true q104
       go_wp2
       repeat (go_quiet (fail);try go_wp2)
       go_ret
       exact ⟨by first|rfl|(simp [errW_none,errW_some] <;> rfl)|(simp only [← hji9];first|rfl|(simp [errW_none,errW_some] <;> rfl))|(simp [*,errW_none,errW_some] <;> rfl),by repeat (first|(with_reducible first|exact HI0.out|apply IsS51.alloc|apply IsS51.drewN|apply IsS51.drew|apply IsS51.set_1)|exact HI0.out),by repeat (first|(with_reducible first|exact HB.out|apply below_alloc|apply pw_below_drewN|apply below_drew1|refine below_set ?_ (IsS51.ge HI0.out))|exact HB.out),by repeat (first|(with_reducible first|exact HK.out|apply KeepBut.set_|apply keep_drewN|apply keep_drew|apply keep_alloc)|exact HK.out)⟩
     ·rw [if_neg c10] at H
      exact absurd H (by simp)
    ·rw [if_neg c8] at H
     have c8b0:decide ((wrap64 ((wrap64 (s0_1 + 1)) - 1)) < (s0_0.length:Int)) = false:=decide_eq_false c8
     clear c8
     by_cases c13:(s0_0.length:Int) = 0
     ·rw [if_pos c13] at H
      exact absurd H (by simp)
     ·rw [if_neg c13] at H
      have c13b0:((s0_0.length:Int) == 0) = false:=beq_eq_false_iff_ne.mpr c13
      have c13b1:((s0_0.length:Int) != 0) = true:=bne_iff_ne.mpr c13
      have c13b2:¬ (s0_0 = []):=fun h_=>c13 (by rw [h_];rfl)
      obtain ⟨ji14,hji14⟩:∃ j_:Int,(Int.tmod (wrap64 ((wrap64 (s0_1 + 1)) - 1)) (s0_0.length:Int)) = j_:=⟨_,rfl⟩
      replace H:(if 0≤(ji14) then (if (ji14) < (s0_0.length:Int) then (if 0≤(Int.tmod (wrap64 ((wrap64 ((wrap64 ((wrap64 (s0_1 + 1)) - 1)) * 7)) + 3)) (s0_0.length:Int)) then (if (Int.tmod (wrap64 ((wrap64 ((wrap64 ((wrap64 (s0_1 + 1)) - 1)) * 7)) + 3)) (s0_0.length:Int)) < (s0_0.length:Int) then (if a1 = 0 then (none) else (some (Int.tmod (Go.bits .xor .i64 (wrap64 ((wrap64 ((wrap64 ((wrap64 ((wrap64 (rd s0_0 (ji14))) * 131)) + (wrap64 ((wrap64 (rd s0_0 (Int.tmod (wrap64 ((wrap64 ((wrap64 ((wrap64 (s0_1 + 1)) - 1)) * 7)) + 3)) (s0_0.length:Int)))) * 1117)))) + (wrap64 ((wrap64 ((wrap64 (s0_1 + 1)) - 1)) * 29)))) + (wrap64 ((wrap64 (Int.tdiv (wrap64 ((wrap64 (s0_1 + 1)) - 1)) (s0_0.length:Int))) * 53)))) (wrap64 (Int.tdiv (wrap64 ((wrap64 ((wrap64 ((wrap64 ((wrap64 (rd s0_0 (ji14))) * 131)) + (wrap64 ((wrap64 (rd s0_0 (Int.tmod (wrap64 ((wrap64 ((wrap64 ((wrap64 (s0_1 + 1)) - 1)) * 7)) + 3)) (s0_0.length:Int)))) * 1117)))) + (wrap64 ((wrap64 ((wrap64 (s0_1 + 1)) - 1)) * 29)))) + (wrap64 ((wrap64 (Int.tdiv (wrap64 ((wrap64 (s0_1 + 1)) - 1)) (s0_0.length:Int))) * 53)))) 64))) a1,(wrap64 (s0_1 + 1))))) else (none)) else (none)) else (none)) else (none)) = some (r1,r2):=by first|(rw [hji14] at H;exact H)|(simp only [hji14] at H ⊢;exact H)
      by_cases c15:0≤(ji14)
      ·rw [if_pos c15] at H
       have c15b0:decide (0≤(ji14)) = true:=decide_eq_true c15
       clear c15
       by_cases c16:(ji14) < (s0_0.length:Int)
       ·rw [if_pos c16] at H
        have c16b0:decide ((ji14) < (s0_0.length:Int)) = true:=decide_eq_true c16
        clear c16
        obtain ⟨ji17,hji17⟩:∃ j_:Int,(Int.tmod (wrap64 ((wrap64 ((wrap64 ((wrap64 (s0_1 + 1)) - 1)) * 7)) + 3)) (s0_0.length:Int)) = j_:=⟨_,rfl⟩
        replace H:(if 0≤(ji17) then (if (ji17) < (s0_0.length:Int) then (if a1 = 0 then (none) else (some (Int.tmod (Go.bits .xor .i64 (wrap64 ((wrap64 ((wrap64 ((wrap64 ((wrap64 (rd s0_0 (ji14))) * 131)) + (wrap64 ((wrap64 (rd s0_0 (ji17))) * 1117)))) + (wrap64 ((wrap64 ((wrap64 (s0_1 + 1)) - 1)) * 29)))) + (wrap64 ((wrap64 (Int.tdiv (wrap64 ((wrap64 (s0_1 + 1)) - 1)) (s0_0.length:Int))) * 53)))) (wrap64 (Int.tdiv (wrap64 ((wrap64 ((wrap64 ((wrap64 ((wrap64 (rd s0_0 (ji14))) * 131)) + (wrap64 ((wrap64 (rd s0_0 (ji17))) * 1117)))) + (wrap64 ((wrap64 ((wrap64 (s0_1 + 1)) - 1)) * 29)))) + (wrap64 ((wrap64 (Int.tdiv (wrap64 ((wrap64 (s0_1 + 1)) - 1)) (s0_0.length:Int))) * 53)))) 64))) a1,(wrap64 (s0_1 + 1))))) else (none)) else (none)) = some (r1,r2):=by first|(rw [hji17] at H;exact H)|(simp only [hji17] at H ⊢;exact H)
        by_cases c18:0≤(ji17)
        ·rw [if_pos c18] at H
         have c18b0:decide (0≤(ji17)) = true:=decide_eq_true c18
         clear c18
         by_cases c19:(ji17) < (s0_0.length:Int)
         ·rw [if_pos c19] at H
          have c19b0:decide ((ji17) < (s0_0.length:Int)) = true:=decide_eq_true c19
          clear c19
          by_cases c20:a1 = 0
          ·rw [if_pos c20] at H
           exact absurd H (by simp)
          ·rw [if_neg c20] at H
           have c20b0:(a1 == 0) = false:=beq_eq_false_iff_ne.mpr c20
           have c20b1:(a1 != 0) = true:=bne_iff_ne.mpr c20
           simp only [Option.some.injEq,Prod.mk.injEq] at H
           obtain ⟨rfl,rfl⟩:=H
           obtain ⟨ASz21_0,cSz21_0,HGz21,hgz21,HSz21_0⟩:=HI0.out
           have hcz21_0:=cellS51_0 HGz21
           have hcz21_1:=cellS51_1 HGz21
           have hfz21_1:=blk_frozen HGz21 1
           clear HGz21 hgz21
           have p105:0≤((ji14):Int):=of_decide_eq_true (by first|(with_reducible assumption)|assumption)
           have q105:(ji14) < (s0_0.length:Int):=of_decide_eq_true (by first|(with_reducible assumption)|assumption)
           obtain ⟨ad105,e105,hx105_0⟩:=Kd.at_int HSz21_0 (ji14) p105 q105
           cases e105
           replace hx105_0:=pw_cell_below HB.out hx105_0
           replace p105:=eq_true p105
           replace q105:=eq_true q105
           have p106:0≤((ji17):Int):=of_decide_eq_true (by first|(with_reducible assumption)|assumption)
           have q106:(ji17) < (s0_0.length:Int):=of_decide_eq_true (by first|(with_reducible assumption)|assumption)
           obtain ⟨ad106,e106,hx106_0⟩:=Kd.at_int HSz21_0 (ji17) p106 q106
           obtain rfl:ad105 = ad106:=(by injection e106)
           replace hx106_0:=pw_cell_below HB.out hx106_0
           replace p106:=eq_true p106
           replace q106:=eq_true q106
           go_wp2
           repeat (go_quiet (fail);try go_wp2)
           go_ret
           exact ⟨by first|rfl|(simp [errW_none,errW_some] <;> rfl)|(simp only [← hji14,← hji17];first|rfl|(simp [errW_none,errW_some] <;> rfl))|(simp [*,errW_none,errW_some] <;> rfl),by repeat (first|(with_reducible first|exact HI0.out|apply IsS51.alloc|apply IsS51.drewN|apply IsS51.drew|apply IsS51.set_1)|exact HI0.out),by repeat (first|(with_reducible first|exact HB.out|apply below_alloc|apply pw_below_drewN|apply below_drew1|refine below_set ?_ (IsS51.ge HI0.out))|exact HB.out),by repeat (first|(with_reducible first|exact HK.out|apply KeepBut.set_|apply keep_drewN|apply keep_drew|apply keep_alloc)|exact HK.out)⟩
         ·rw [if_neg c19] at H
          exact absurd H (by simp)
        ·rw [if_neg c18] at H
         exact absurd H (by simp)
       ·rw [if_neg c16] at H
        exact absurd H (by simp)
      ·rw [if_neg c15] at H
       exact absurd H (by simp)

end Go.Proofs.Ytmedlhoahddbmaa.P

namespace Go.Proofs.Ytmedlhoahddbmaa.P
open Go.RowKit Go.Proofs.YtmedlhoahddbmaaW.PrintWords Go.Proofs.YtmedlhoahddbmaaW.PrintLast Go.Proofs.YtmedlhoahddbmaaW.PrintMore
attribute [local go_sem] max2_int min2_int max_two min_two max_three min_three max_four min_four   -- for this text's walks alone
set_option linter.unusedVariables false
set_option linter.unusedSimpArgs false

/-! ### spec_DrawSetOf: function 4 -/
def spec_DrawSetOf.l0:Nat → List Int → Int → List Int → Int → Option (List Int)
 | 0,_,_,_,_=>none
 | k + 1,x4,x5,x110000,x110001=>if x5 > 0 then ((spec_l6Rd_pick.f k x110000 x110001 12).bind fun bt115=>((spec_l6Rd_pick.f k x110000 bt115.2 60).bind fun bt117=>((some (([bt115.1,bt117.1,59]:List Int):List Int)).bind fun y119=>((spec_l6Rd_pick.f k x110000 bt117.2 3).bind fun bt122=>(if 0≤bt122.1 then (if bt122.1 < (y119.length:Int) then (if x4.length < 17592186044416 then (spec_DrawSetOf.l0 k (x4 ++ [rd y119 bt122.1]) (wrap64 (x5 - 1)) x110000 bt122.2) else (none)) else (none)) else (none)))))) else ((spec_l6Rd_pick.f k x110000 x110001 16).bind fun bt128=>(if bt128.1 = 0 then ((some (([(-1),60]:List Int):List Int)).bind fun y130=>((spec_l6Rd_pick.f k x110000 bt128.2 2).bind fun bt133=>(if 0≤bt133.1 then (if bt133.1 < (y130.length:Int) then (if x4.length < 17592186044416 then (some (x4 ++ [rd y130 bt133.1])) else (none)) else (none)) else (none)))) else (some x4)))
def spec_DrawSetOf.f (k:Nat) (l0:List Int):Option (List Int):=(spec_l6Open.f l0).bind fun bt107=>((spec_l6Rd_pick.f k bt107.1 bt107.2 7).bind fun bt113=>(spec_DrawSetOf.l0 k (([]:List Int)) bt113.1 bt107.1 bt113.2))
theorem spec_DrawSetOf.mono_l:∀ k,(∀ y0 y1 y2 y3,LeO (spec_DrawSetOf.l0 k y0 y1 y2 y3) (spec_DrawSetOf.l0 (k + 1) y0 y1 y2 y3))
 | 0=>fun _ _ _ _ r h=>by simp [spec_DrawSetOf.l0] at h
 | k + 1=>by
  have ih0:=spec_DrawSetOf.mono_l k
  ·intro y0 y1 y2 y3
   unfold spec_DrawSetOf.l0
   repeat' first
   | (with_reducible exact ih0 _ _ _ _)
   | (with_reducible exact spec_l6Rd_pick.mono _ _ _ _)
   | (with_reducible exact LeO.refl _)
   | (with_reducible exact LeO.none _)
   | (with_reducible refine LeO.ite ?_ ?_)
   | (with_reducible refine LeO.bind ?_ (fun _=>?_))
   | exact ih0 _ _ _ _
   | exact spec_l6Rd_pick.mono _ _ _ _
   | exact LeO.none _
   | refine LeO.ite ?_ ?_
   | refine LeO.bind ?_ (fun _=>?_)
theorem spec_DrawSetOf.mono:∀ a0 k,LeO (spec_DrawSetOf.f k a0) (spec_DrawSetOf.f (k + 1) a0):=by
 intro a0 k
 have ih0:=spec_DrawSetOf.mono_l k
 unfold spec_DrawSetOf.f
 repeat' first
   | (with_reducible exact ih0 _ _ _ _)
   | (with_reducible exact spec_l6Rd_pick.mono _ _ _ _)
   | (with_reducible exact LeO.refl _)
   | (with_reducible exact LeO.none _)
   | (with_reducible refine LeO.ite ?_ ?_)
   | (with_reducible refine LeO.bind ?_ (fun _=>?_))
   | exact ih0 _ _ _ _
   | exact spec_l6Rd_pick.mono _ _ _ _
   | exact LeO.none _
   | refine LeO.ite ?_ ?_
   | refine LeO.bind ?_ (fun _=>?_)
set_option maxHeartbeats 8000000 in
set_option maxRecDepth 100000 in
theorem spec_DrawSetOf.calls (k:Nat) (A0:Option Addr) (c0:Nat) (l0:List Int) (r:List Int) (w:World) (hr0:Kd.C (Kd.int .u8) w A0 l0.length l0) (hc0:l0.length≤c0) (h:spec_DrawSetOf.f k l0 = some r) :
  Calls Try.prog 4 #[.slice A0 l0.length c0] w fun e w'=>∃ v0_:Value,e = .returned (v0_)∧Kd.R (Kd.int .i64) 3 w' w.heap.size (fun _=>True) v0_ r∧Below w.heap.size w w':=by
 have HR0:=Aside0.mk hr0
 have HC0:=Aside0.mk hc0
 clear hr0 hc0
 have HB:=Aside0.mk (Below.refl w.heap.size w)
 have H:((spec_l6Open.f l0).bind fun bt107=>((spec_l6Rd_pick.f k bt107.1 bt107.2 7).bind fun bt113=>(spec_DrawSetOf.l0 k (([]:List Int)) bt113.1 bt107.1 bt113.2))) = some r:=h
 clear h
 replace H:=Option.bind_eq_some_iff.mp H
 obtain ⟨⟨t107,t108⟩,A20,H⟩:=H
 replace H:((spec_l6Rd_pick.f k t107 t108 7).bind fun bt113=>(spec_DrawSetOf.l0 k (([]:List Int)) bt113.1 t107 bt113.2)) = some r:=H
 have A2:=Aside0.mk A20
 clear A20
 obtain ⟨y110,hy110⟩:∃ y_:List Int,y_ = (([]:List Int)):=⟨_,rfl⟩
 replace H:((spec_l6Rd_pick.f k t107 t108 7).bind fun bt113=>(spec_DrawSetOf.l0 k y110 bt113.1 t107 bt113.2)) = some r:=by first|(rw [hy110];with_reducible exact H)|(have H2_:=(Option.bind_some _ _).symm.trans H;rw [hy110];with_reducible exact H2_)|(have H2_:=(Option.bind_some _ _).symm.trans H;with_reducible exact H2_)|with_reducible exact H|(rw [hy110];exact H)|exact H
 have Ny110:=Aside0.mk hy110
 clear hy110
 replace H:=Option.bind_eq_some_iff.mp H
 obtain ⟨⟨t113,t114⟩,A30,H⟩:=H
 replace H:(spec_DrawSetOf.l0 k y110 t113 t107 t114) = some r:=H
 have A3:=Aside0.mk A30
 clear A30
 have H':=Aside0.mk H
 clear H
 go_enter Try.func4,Try.ntmps4
 go_wp2_with (first|((with_reducible refine gate_callee (f:=10) rfl ?_);refine goesL_ (some 7) rfl rfl Try.func10 (by kernel_rfl) rfl #[.slice A0 l0.length c0] rfl (by (try simp only [List.map_toArray,List.map_cons,List.map_nil]);first|done|rfl|(simp only [List.length_drop,List.length_take];rfl)) ?_;(with_reducible refine (spec_l6Open.calls _ _ l0 t107 t108 w _ ?side1 ?side2 ?side3 A2.out).mono ?_);(case side1=>repeat (first|(with_reducible first|exact HB.out|apply below_alloc|apply pw_below_drewN|apply below_drew1)|exact HB.out));(case side2=>exact HR0.out);(case side3=>exact HC0.out);rintro e w4 ⟨g109,rfl,hi,hb,hb2⟩;refine ⟨_,rfl,?_⟩;have n0_:=Aside0.mk (hb);have n1_:=Aside0.mk (hi);clear HB;have HB:=n0_;have HI109:=n1_;clear n0_ n1_;(try clear hb);(try clear hb2);(try clear hk);(try clear hi))|((with_reducible refine gate_dst (N:=8) rfl ?_);refine Kd.R_lit (Kd.int .i64) _ 3 ?hg (N:=8) ?hd (xs:=([]:List Int)) (inner:=[]) (ok:=fun _=>True) (okp:=fun _=>True) ?hr ?hp (fun _ hk=>hk) trivial (Below.refl _ _) (Nat.le_refl _) (by simp) ?_;(case hd=>rfl);(case hg=>rfl);(case hr=>first|(go_simp;done)|(go_simp;rfl));(case hp=>exact (Reps.none _ _));intro v111 w5 ho6 hb hg_ hnew_;clear hg_ hnew_;(first|rw [← Ny110.out] at ho6|(simp only [Int.reduceToNat] at ho6;rw [← Ny110.out] at ho6));have n0_:=Aside0.mk (Kd.R_lower ho6 (below_size (by repeat (first|(with_reducible first|exact HB.out|apply below_alloc|apply pw_below_drewN|apply below_drew1|refine below_set ?_ (IsS51.ge HI109.out))|exact HB.out))));have n1_:=Aside0.mk (IsS51.below (by repeat (first|(with_reducible first|exact HI109.out|apply IsS51.alloc|apply IsS51.drewN|apply IsS51.drew|apply IsS51.set_1)|exact HI109.out)) hb);have n2_:=Aside0.mk (below_step (by repeat (first|(with_reducible first|exact HB.out|apply below_alloc|apply pw_below_drewN|apply below_drew1|refine below_set ?_ (IsS51.ge HI109.out))|exact HB.out)) hb);clear HI109;clear HB;have HO112:=n0_;have HI109:=n1_;have HB:=n2_;clear n0_ n1_ n2_;clear hb ho6)|((with_reducible refine gate_callee (f:=11) rfl ?_);refine goesL_ (some 10) rfl rfl Try.func11 (by kernel_rfl) rfl #[.pointer (some ⟨g109,0,none⟩),.int .i64 7] rfl (by (try simp only [List.map_toArray,List.map_cons,List.map_nil]);first|done|rfl|(simp only [List.length_drop,List.length_take];rfl)) ?_;(with_reducible refine (spec_l6Rd_pick.calls k g109 t107 t108 7 t113 t114 w _ ?side1 ?side2 A3.out).mono ?_);(case side1=>repeat (first|(with_reducible first|exact HI109.out|apply IsS51.alloc|apply IsS51.drewN|apply IsS51.drew|apply IsS51.set_1)|exact HI109.out));(case side2=>repeat (first|(with_reducible first|exact HB.out|apply below_alloc|apply pw_below_drewN|apply below_drew1|refine below_set ?_ (IsS51.ge HI109.out))|exact HB.out));rintro e w7 ⟨rfl,hi,hb,hk⟩;refine ⟨_,rfl,?_⟩;have n0_:=Aside0.mk (Kd.R_mono (Kd.R_keep (IsS51.apart (show IsS51 w _ g109 t107 t108 from by repeat (first|(with_reducible first|exact HI109.out|apply IsS51.alloc|apply IsS51.drewN|apply IsS51.drew|apply IsS51.set_1)|exact HI109.out)) (by (with_reducible repeat (first|apply Kd.R_alloc|apply Kd.R_drewN|apply Kd.R_drew));exact HO112.out) (by decide)) hk (fun _ h=>h.2)) (fun _ h=>h.1));have n1_:=Aside0.mk (hb);have n2_:=Aside0.mk (hi);clear HO112;clear HB;clear HI109;have HO112:=n0_;have HB:=n1_;have HI109:=n2_;clear n0_ n1_ n2_;(try clear hb);(try clear hb2);(try clear hk);(try clear hi)))
 go_loopg [4,5] k (fun kq v4 v5 w'=>∃ (x4_1:List Int) (x5_1:Int) (x110001_1:Int),v5 = .int .i64 x5_1∧Aside0 (spec_DrawSetOf.l0 kq x4_1 x5_1 t107 x110001_1 = some r)∧Aside0 (kq≤k)∧Aside0 (Kd.R (Kd.int .i64) 3 w' w.heap.size (fun _=>True) v4 x4_1)∧Aside0 (IsS51 w w' g109 t107 x110001_1)∧Aside0 (Below w.heap.size w w'))
 case atStart=>exact ⟨(y110),(t113),(t114),(by first|rfl|(simp;done)|(simp [*];done)|(simp [Int.tmod_eq_emod_of_nonneg];done)),H',⟨Nat.le_refl _⟩,⟨by (with_reducible repeat (first|apply Kd.R_alloc|apply Kd.R_drewN|apply Kd.R_drew));exact HO112.out⟩,⟨by repeat (first|(with_reducible first|exact HI109.out|apply IsS51.alloc|apply IsS51.drewN|apply IsS51.drew|apply IsS51.set_1)|exact HI109.out)⟩,⟨by repeat (first|(with_reducible first|exact HB.out|apply below_alloc|apply pw_below_drewN|apply below_drew1|refine below_set ?_ (IsS51.ge HI109.out))|exact HB.out)⟩⟩
 case round =>
  clear H'
  try clear c1
  try clear p2
  try clear c4
  obtain ⟨x4_1,x5_1,x110001_1,rfl,HA,HK1,HO_4,HI109,HB⟩:=hrel
  cases gk with
  | zero=>exact absurd HA.out (by simp [spec_DrawSetOf.l0])
  | succ k1 =>
   have H:=HA.out
   clear HA
   simp only [spec_DrawSetOf.l0] at H
   by_cases c8:x5_1 > 0
   ·rw [if_pos c8] at H
    have c8b0:decide (0 < x5_1) = true:=decide_eq_true c8
    clear c8
    replace H:=Option.bind_eq_some_iff.mp H
    obtain ⟨⟨t115,t116⟩,A90,H⟩:=H
    replace H:((spec_l6Rd_pick.f k1 t107 t116 60).bind fun bt117=>((some (([t115,bt117.1,59]:List Int):List Int)).bind fun y119=>((spec_l6Rd_pick.f k1 t107 bt117.2 3).bind fun bt122=>(if 0≤bt122.1 then (if bt122.1 < (y119.length:Int) then (if x4_1.length < 17592186044416 then (spec_DrawSetOf.l0 k1 (x4_1 ++ [rd y119 bt122.1]) (wrap64 (x5_1 - 1)) t107 bt122.2) else (none)) else (none)) else (none))))) = some r:=H
    have A9:=Aside0.mk A90
    clear A90
    replace H:=Option.bind_eq_some_iff.mp H
    obtain ⟨⟨t117,t118⟩,A100,H⟩:=H
    replace H:((some (([t115,t117,59]:List Int):List Int)).bind fun y119=>((spec_l6Rd_pick.f k1 t107 t118 3).bind fun bt122=>(if 0≤bt122.1 then (if bt122.1 < (y119.length:Int) then (if x4_1.length < 17592186044416 then (spec_DrawSetOf.l0 k1 (x4_1 ++ [rd y119 bt122.1]) (wrap64 (x5_1 - 1)) t107 bt122.2) else (none)) else (none)) else (none)))) = some r:=H
    have A10:=Aside0.mk A100
    clear A100
    obtain ⟨y119,hy119⟩:∃ y_:List Int,y_ = (([t115,t117,59]:List Int)):=⟨_,rfl⟩
    replace H:((spec_l6Rd_pick.f k1 t107 t118 3).bind fun bt122=>(if 0≤bt122.1 then (if bt122.1 < (y119.length:Int) then (if x4_1.length < 17592186044416 then (spec_DrawSetOf.l0 k1 (x4_1 ++ [rd y119 bt122.1]) (wrap64 (x5_1 - 1)) t107 bt122.2) else (none)) else (none)) else (none))) = some r:=by first|(rw [hy119];with_reducible exact H)|(have H2_:=(Option.bind_some _ _).symm.trans H;rw [hy119];with_reducible exact H2_)|(have H2_:=(Option.bind_some _ _).symm.trans H;with_reducible exact H2_)|with_reducible exact H|(rw [hy119];exact H)|exact H
    have Ny119:=Aside0.mk hy119
    clear hy119
    replace H:=Option.bind_eq_some_iff.mp H
    obtain ⟨⟨t122,t123⟩,A110,H⟩:=H
    replace H:(if 0≤t122 then (if t122 < (y119.length:Int) then (if x4_1.length < 17592186044416 then (spec_DrawSetOf.l0 k1 (x4_1 ++ [rd y119 t122]) (wrap64 (x5_1 - 1)) t107 t123) else (none)) else (none)) else (none)) = some r:=H
    have A11:=Aside0.mk A110
    clear A110
    by_cases c12:0≤t122
    ·rw [if_pos c12] at H
     have c12b0:decide (0≤t122) = true:=decide_eq_true c12
     clear c12
     by_cases c13:t122 < (y119.length:Int)
     ·rw [if_pos c13] at H
      have c13b0:decide (t122 < (y119.length:Int)) = true:=decide_eq_true c13
      clear c13
      by_cases c14:x4_1.length < 17592186044416
      ·rw [if_pos c14] at H
       have LMc14:=Aside0.mk c14
       clear c14
       obtain ⟨y125,hy125⟩:∃ y_:List Int,y_ = (x4_1 ++ [rd y119 t122]):=⟨_,rfl⟩
       replace H:(spec_DrawSetOf.l0 k1 y125 (wrap64 (x5_1 - 1)) t107 t123) = some r:=by first|(rw [hy125];with_reducible exact H)|(have H2_:=(Option.bind_some _ _).symm.trans H;rw [hy125];with_reducible exact H2_)|(have H2_:=(Option.bind_some _ _).symm.trans H;with_reducible exact H2_)|with_reducible exact H|(rw [hy125];exact H)|exact H
       have Ny125:=Aside0.mk hy125
       clear hy125
       have H':=Aside0.mk H
       clear H
       go_wp2_with (first|((with_reducible refine gate_callee (f:=11) rfl ?_);refine goesL_ (some 17) rfl rfl Try.func11 (by kernel_rfl) rfl #[.pointer (some ⟨g109,0,none⟩),.int .i64 12] rfl (by (try simp only [List.map_toArray,List.map_cons,List.map_nil]);first|done|rfl|(simp only [List.length_drop,List.length_take];rfl)) ?_;(with_reducible refine (spec_l6Rd_pick.calls k1 g109 t107 x110001_1 12 t115 t116 w _ ?side1 ?side2 A9.out).mono ?_);(case side1=>repeat (first|(with_reducible first|exact HI109.out|apply IsS51.alloc|apply IsS51.drewN|apply IsS51.drew|apply IsS51.set_1)|exact HI109.out));(case side2=>repeat (first|(with_reducible first|exact HB.out|apply below_alloc|apply pw_below_drewN|apply below_drew1|refine below_set ?_ (IsS51.ge HI109.out))|exact HB.out));rintro e w15 ⟨rfl,hi,hb,hk⟩;refine ⟨_,rfl,?_⟩;have n0_:=Aside0.mk (Kd.R_mono (Kd.R_keep (IsS51.apart (show IsS51 w _ g109 t107 x110001_1 from by repeat (first|(with_reducible first|exact HI109.out|apply IsS51.alloc|apply IsS51.drewN|apply IsS51.drew|apply IsS51.set_1)|exact HI109.out)) (by (with_reducible repeat (first|apply Kd.R_alloc|apply Kd.R_drewN|apply Kd.R_drew));exact HO_4.out) (by decide)) hk (fun _ h=>h.2)) (fun _ h=>h.1));have n1_:=Aside0.mk (hb);have n2_:=Aside0.mk (hi);clear HO_4;clear HB;clear HI109;have HO_4:=n0_;have HB:=n1_;have HI109:=n2_;clear n0_ n1_ n2_;(try clear hb);(try clear hb2);(try clear hk);(try clear hi))|((with_reducible refine gate_callee (f:=11) rfl ?_);refine goesL_ (some 19) rfl rfl Try.func11 (by kernel_rfl) rfl #[.pointer (some ⟨g109,0,none⟩),.int .i64 60] rfl (by (try simp only [List.map_toArray,List.map_cons,List.map_nil]);first|done|rfl|(simp only [List.length_drop,List.length_take];rfl)) ?_;(with_reducible refine (spec_l6Rd_pick.calls k1 g109 t107 t116 60 t117 t118 w _ ?side1 ?side2 A10.out).mono ?_);(case side1=>repeat (first|(with_reducible first|exact HI109.out|apply IsS51.alloc|apply IsS51.drewN|apply IsS51.drew|apply IsS51.set_1)|exact HI109.out));(case side2=>repeat (first|(with_reducible first|exact HB.out|apply below_alloc|apply pw_below_drewN|apply below_drew1|refine below_set ?_ (IsS51.ge HI109.out))|exact HB.out));rintro e w16 ⟨rfl,hi,hb,hk⟩;refine ⟨_,rfl,?_⟩;have n0_:=Aside0.mk (Kd.R_mono (Kd.R_keep (IsS51.apart (show IsS51 w _ g109 t107 t116 from by repeat (first|(with_reducible first|exact HI109.out|apply IsS51.alloc|apply IsS51.drewN|apply IsS51.drew|apply IsS51.set_1)|exact HI109.out)) (by (with_reducible repeat (first|apply Kd.R_alloc|apply Kd.R_drewN|apply Kd.R_drew));exact HO_4.out) (by decide)) hk (fun _ h=>h.2)) (fun _ h=>h.1));have n1_:=Aside0.mk (hb);have n2_:=Aside0.mk (hi);clear HO_4;clear HB;clear HI109;have HO_4:=n0_;have HB:=n1_;have HI109:=n2_;clear n0_ n1_ n2_;(try clear hb);(try clear hb2);(try clear hk);(try clear hi))|((with_reducible refine gate_dst (N:=20) rfl ?_);refine Kd.R_lit (Kd.int .i64) _ 3 ?hg (N:=20) ?hd (xs:=([t115,t117,59]:List Int)) (inner:=[.int .i64 t115,.int .i64 t117,.int .i64 59]) (ok:=fun _=>True) (okp:=fun _=>True) ?hr ?hp (fun _ hk=>hk) trivial (Below.refl _ _) (Nat.le_refl _) (by simp) ?_;(case hd=>rfl);(case hg=>rfl);(case hr=>first|(go_simp;done)|(go_simp;rfl));(case hp=>exact (Reps.one (show Kd.M (Kd.int .i64) _ _ _ t115 [.int .i64 t115] from rfl) (Reps.one (show Kd.M (Kd.int .i64) _ _ _ t117 [.int .i64 t117] from rfl) (Reps.one (show Kd.M (Kd.int .i64) _ _ _ 59 [.int .i64 59] from rfl) (Reps.none _ _)))));intro v120 w17 ho18 hb hg_ hnew_;clear hg_ hnew_;(first|rw [← Ny119.out] at ho18|(simp only [Int.reduceToNat] at ho18;rw [← Ny119.out] at ho18));have n0_:=Aside0.mk (Kd.R_elder' (by (with_reducible repeat (first|apply Kd.R_alloc|apply Kd.R_drewN|apply Kd.R_drew));exact HO_4.out) (Kd.R_base ho18) hb);have n1_:=Aside0.mk (Kd.R_lower (Kd.R_new' ho18 (Kd.R_lt (by (with_reducible repeat (first|apply Kd.R_alloc|apply Kd.R_drewN|apply Kd.R_drew));exact HO_4.out))) (below_size (by repeat (first|(with_reducible first|exact HB.out|apply below_alloc|apply pw_below_drewN|apply below_drew1|refine below_set ?_ (IsS51.ge HI109.out))|exact HB.out))));have n2_:=Aside0.mk (IsS51.below (by repeat (first|(with_reducible first|exact HI109.out|apply IsS51.alloc|apply IsS51.drewN|apply IsS51.drew|apply IsS51.set_1)|exact HI109.out)) hb);have n3_:=Aside0.mk (below_step (by repeat (first|(with_reducible first|exact HB.out|apply below_alloc|apply pw_below_drewN|apply below_drew1|refine below_set ?_ (IsS51.ge HI109.out))|exact HB.out)) hb);clear HO_4;clear HI109;clear HB;have HO_4:=n0_;have HO121:=n1_;have HI109:=n2_;have HB:=n3_;clear n0_ n1_ n2_ n3_;clear hb ho18)|((with_reducible refine gate_callee (f:=11) rfl ?_);refine goesL_ (some 22) rfl rfl Try.func11 (by kernel_rfl) rfl #[.pointer (some ⟨g109,0,none⟩),.int .i64 3] rfl (by (try simp only [List.map_toArray,List.map_cons,List.map_nil]);first|done|rfl|(simp only [List.length_drop,List.length_take];rfl)) ?_;(with_reducible refine (spec_l6Rd_pick.calls k1 g109 t107 t118 3 t122 t123 w _ ?side1 ?side2 A11.out).mono ?_);(case side1=>repeat (first|(with_reducible first|exact HI109.out|apply IsS51.alloc|apply IsS51.drewN|apply IsS51.drew|apply IsS51.set_1)|exact HI109.out));(case side2=>repeat (first|(with_reducible first|exact HB.out|apply below_alloc|apply pw_below_drewN|apply below_drew1|refine below_set ?_ (IsS51.ge HI109.out))|exact HB.out));rintro e w19 ⟨rfl,hi,hb,hk⟩;refine ⟨_,rfl,?_⟩;have n0_:=Aside0.mk (Kd.R_mono (Kd.R_keep (IsS51.apart (show IsS51 w _ g109 t107 t118 from by repeat (first|(with_reducible first|exact HI109.out|apply IsS51.alloc|apply IsS51.drewN|apply IsS51.drew|apply IsS51.set_1)|exact HI109.out)) (by (with_reducible repeat (first|apply Kd.R_alloc|apply Kd.R_drewN|apply Kd.R_drew));exact HO_4.out) (by decide)) hk (fun _ h=>h.2)) (fun _ h=>h.1));have n1_:=Aside0.mk (Kd.R_mono (Kd.R_keep (IsS51.apart (show IsS51 w _ g109 t107 t118 from by repeat (first|(with_reducible first|exact HI109.out|apply IsS51.alloc|apply IsS51.drewN|apply IsS51.drew|apply IsS51.set_1)|exact HI109.out)) (by (with_reducible repeat (first|apply Kd.R_alloc|apply Kd.R_drewN|apply Kd.R_drew));exact HO121.out) (by decide)) hk (fun _ h=>h.2)) (fun _ h=>h.1));have n2_:=Aside0.mk (hb);have n3_:=Aside0.mk (hi);clear HO_4;clear HO121;clear HB;clear HI109;have HO_4:=n0_;have HO121:=n1_;have HB:=n2_;have HI109:=n3_;clear n0_ n1_ n2_ n3_;(try clear hb);(try clear hb2);(try clear hk);(try clear hi);obtain ⟨Ao20,co20,eo20⟩:=Kd.R_slice HO121.out;subst eo20;have p124:0≤(t122:Int):=of_decide_eq_true (by first|(with_reducible assumption)|assumption);have q124:t122 < (y119.length:Int):=of_decide_eq_true (by first|(with_reducible assumption)|assumption);obtain ⟨ad124,e124,hx124_0⟩:=Kd.at_int (Kd.R_reads' HO121.out).2.2 t122 p124 q124;cases e124;replace p124:=eq_true p124;replace q124:=eq_true q124)|((with_reducible refine gate_builtin (b:=.append) (xs:=#[.tmp 15,.tmp 25]) rfl ?_);at_builtin;refine Kd.R_append (Kd.int .i64) (w0:=w) w.heap.size rfl (.tmp 15) (.tmp 25) 23 3 (.int .i64 0) 8 rfl Try.underlying23 info3 rfl (by decide) (by omega) u4 x4_1 (rd y119 t122) [.int .i64 (rd y119 t122)] (fun k_=>some k_ ≠ (.slice (some ad124) y119.length co20:Value).ownBlock) (fun _=>False) rfl rfl ?aP (fun _ hk=>hk.elim) ?aF ?aO ?aB ?aS ?aL ?_;(case aP=>exact rfl);(case aB=>exact (by repeat (first|(with_reducible first|exact HB.out|apply below_alloc|apply pw_below_drewN|apply below_drew1|refine below_set ?_ (IsS51.ge HI109.out))|exact HB.out)));(case aF=>exact (fun k_ hk=>Kd.fresh' (Kd.R_lt (by (with_reducible repeat (first|apply Kd.R_alloc|apply Kd.R_drewN|apply Kd.R_drew));exact HO121.out)) k_ hk));(case aO=>exact (by (with_reducible repeat (first|apply Kd.R_alloc|apply Kd.R_drewN|apply Kd.R_drew));exact Kd.R_mono HO_4.out (fun _ hk=>hk.2)));(case aS=>exact (below_size (by repeat (first|(with_reducible first|exact HB.out|apply below_alloc|apply pw_below_drewN|apply below_drew1|refine below_set ?_ (IsS51.ge HI109.out))|exact HB.out))));(case aL=>have:=LMc14.out;omega);intro v126 w21 ho hb hg hat;rw [← Ny125.out] at ho;have n0_:=Aside0.mk (IsS51.grown (by repeat (first|(with_reducible first|exact HI109.out|apply IsS51.alloc|apply IsS51.drewN|apply IsS51.drew|apply IsS51.set_1)|exact HI109.out)) hg (IsS51.own_ne HI109.out HO_4.out (by decide)));have n1_:=Aside0.mk (Kd.R_after (ok:=(fun _=>True)) (by (with_reducible repeat (first|apply Kd.R_alloc|apply Kd.R_drewN|apply Kd.R_drew));exact HO121.out) hg hat);have n2_:=Aside0.mk (hb);have n3_:=Aside0.mk (ho);clear HI109;clear HO121;clear HB;clear HO_4;have HI109:=n0_;have HO121:=n1_;have HB:=n2_;have HO127:=n3_;clear n0_ n1_ n2_ n3_;clear ho hb hg hat))
       go_roundg k1
       case measure=>have:=HK1.out;omega
       case rel=>exact ⟨(y125),(wrap64 (x5_1 - 1)),(t123),(by first|rfl|(simp;done)|(simp [*];done)|(simp [Int.tmod_eq_emod_of_nonneg];done)),H',⟨by have:=HK1.out;omega⟩,⟨by (with_reducible repeat (first|apply Kd.R_alloc|apply Kd.R_drewN|apply Kd.R_drew));exact Kd.R_mono HO127.out (fun _ hk=>trivial)⟩,⟨by repeat (first|(with_reducible first|exact HI109.out|apply IsS51.alloc|apply IsS51.drewN|apply IsS51.drew|apply IsS51.set_1)|exact HI109.out)⟩,⟨by repeat (first|(with_reducible first|exact HB.out|apply below_alloc|apply pw_below_drewN|apply below_drew1|refine below_set ?_ (IsS51.ge HI109.out))|exact HB.out)⟩⟩
      ·rw [if_neg c14] at H
       exact absurd H (by simp)
     ·rw [if_neg c13] at H
      exact absurd H (by simp)
    ·rw [if_neg c12] at H
     exact absurd H (by simp)
   ·rw [if_neg c8] at H
    have c8b0:decide (0 < x5_1) = false:=decide_eq_false c8
    clear c8
    replace H:=Option.bind_eq_some_iff.mp H
    obtain ⟨⟨t128,t129⟩,A220,H⟩:=H
    replace H:(if t128 = 0 then ((some (([(-1),60]:List Int):List Int)).bind fun y130=>((spec_l6Rd_pick.f k1 t107 t129 2).bind fun bt133=>(if 0≤bt133.1 then (if bt133.1 < (y130.length:Int) then (if x4_1.length < 17592186044416 then (some (x4_1 ++ [rd y130 bt133.1])) else (none)) else (none)) else (none)))) else (some x4_1)) = some r:=H
    have A22:=Aside0.mk A220
    clear A220
    by_cases c23:t128 = 0
    ·rw [if_pos c23] at H
     have c23b0:(t128 == 0) = true:=beq_iff_eq.mpr c23
     have c23b1:(t128 != 0) = false:=bne_eq_false_iff_eq.mpr c23
     clear c23
     obtain ⟨y130,hy130⟩:∃ y_:List Int,y_ = (([(-1),60]:List Int)):=⟨_,rfl⟩
     replace H:((spec_l6Rd_pick.f k1 t107 t129 2).bind fun bt133=>(if 0≤bt133.1 then (if bt133.1 < (y130.length:Int) then (if x4_1.length < 17592186044416 then (some (x4_1 ++ [rd y130 bt133.1])) else (none)) else (none)) else (none))) = some r:=by first|(rw [hy130];with_reducible exact H)|(have H2_:=(Option.bind_some _ _).symm.trans H;rw [hy130];with_reducible exact H2_)|(have H2_:=(Option.bind_some _ _).symm.trans H;with_reducible exact H2_)|with_reducible exact H|(rw [hy130];exact H)|exact H
     have Ny130:=Aside0.mk hy130
     clear hy130
     replace H:=Option.bind_eq_some_iff.mp H
     obtain ⟨⟨t133,t134⟩,A240,H⟩:=H
     replace H:(if 0≤t133 then (if t133 < (y130.length:Int) then (if x4_1.length < 17592186044416 then (some (x4_1 ++ [rd y130 t133])) else (none)) else (none)) else (none)) = some r:=H
     have A24:=Aside0.mk A240
     clear A240
     by_cases c25:0≤t133
     ·rw [if_pos c25] at H
      have c25b0:decide (0≤t133) = true:=decide_eq_true c25
      clear c25
      by_cases c26:t133 < (y130.length:Int)
      ·rw [if_pos c26] at H
       have c26b0:decide (t133 < (y130.length:Int)) = true:=decide_eq_true c26
       clear c26
       by_cases c27:x4_1.length < 17592186044416
       ·rw [if_pos c27] at H
        have LMc27:=Aside0.mk c27
        clear c27
        obtain ⟨y136,hy136⟩:∃ y_:List Int,y_ = (x4_1 ++ [rd y130 t133]):=⟨_,rfl⟩
        replace H:(some y136) = some r:=by first|(rw [hy136];with_reducible exact H)|(have H2_:=(Option.bind_some _ _).symm.trans H;rw [hy136];with_reducible exact H2_)|(have H2_:=(Option.bind_some _ _).symm.trans H;with_reducible exact H2_)|with_reducible exact H|(rw [hy136];exact H)|exact H
        have Ny136:=Aside0.mk hy136
        clear hy136
        obtain rfl:=Option.some.inj H
        go_wp2_with (first|((with_reducible refine gate_callee (f:=11) rfl ?_);refine goesL_ (some 28) rfl rfl Try.func11 (by kernel_rfl) rfl #[.pointer (some ⟨g109,0,none⟩),.int .i64 16] rfl (by (try simp only [List.map_toArray,List.map_cons,List.map_nil]);first|done|rfl|(simp only [List.length_drop,List.length_take];rfl)) ?_;(with_reducible refine (spec_l6Rd_pick.calls k1 g109 t107 x110001_1 16 t128 t129 w _ ?side1 ?side2 A22.out).mono ?_);(case side1=>repeat (first|(with_reducible first|exact HI109.out|apply IsS51.alloc|apply IsS51.drewN|apply IsS51.drew|apply IsS51.set_1)|exact HI109.out));(case side2=>repeat (first|(with_reducible first|exact HB.out|apply below_alloc|apply pw_below_drewN|apply below_drew1|refine below_set ?_ (IsS51.ge HI109.out))|exact HB.out));rintro e w28 ⟨rfl,hi,hb,hk⟩;refine ⟨_,rfl,?_⟩;have n0_:=Aside0.mk (Kd.R_mono (Kd.R_keep (IsS51.apart (show IsS51 w _ g109 t107 x110001_1 from by repeat (first|(with_reducible first|exact HI109.out|apply IsS51.alloc|apply IsS51.drewN|apply IsS51.drew|apply IsS51.set_1)|exact HI109.out)) (by (with_reducible repeat (first|apply Kd.R_alloc|apply Kd.R_drewN|apply Kd.R_drew));exact HO_4.out) (by decide)) hk (fun _ h=>h.2)) (fun _ h=>h.1));have n1_:=Aside0.mk (hb);have n2_:=Aside0.mk (hi);clear HO_4;clear HB;clear HI109;have HO_4:=n0_;have HB:=n1_;have HI109:=n2_;clear n0_ n1_ n2_;(try clear hb);(try clear hb2);(try clear hk);(try clear hi))|((with_reducible refine gate_dst (N:=31) rfl ?_);refine Kd.R_lit (Kd.int .i64) _ 3 ?hg (N:=31) ?hd (xs:=([(-1),60]:List Int)) (inner:=[.int .i64 (-1),.int .i64 60]) (ok:=fun _=>True) (okp:=fun _=>True) ?hr ?hp (fun _ hk=>hk) trivial (Below.refl _ _) (Nat.le_refl _) (by simp) ?_;(case hd=>rfl);(case hg=>rfl);(case hr=>first|(go_simp;done)|(go_simp;rfl));(case hp=>exact (Reps.one (show Kd.M (Kd.int .i64) _ _ _ (-1) [.int .i64 (-1)] from rfl) (Reps.one (show Kd.M (Kd.int .i64) _ _ _ 60 [.int .i64 60] from rfl) (Reps.none _ _))));intro v131 w29 ho30 hb hg_ hnew_;clear hg_ hnew_;(first|rw [← Ny130.out] at ho30|(simp only [Int.reduceToNat] at ho30;rw [← Ny130.out] at ho30));have n0_:=Aside0.mk (Kd.R_elder' (by (with_reducible repeat (first|apply Kd.R_alloc|apply Kd.R_drewN|apply Kd.R_drew));exact HO_4.out) (Kd.R_base ho30) hb);have n1_:=Aside0.mk (Kd.R_lower (Kd.R_new' ho30 (Kd.R_lt (by (with_reducible repeat (first|apply Kd.R_alloc|apply Kd.R_drewN|apply Kd.R_drew));exact HO_4.out))) (below_size (by repeat (first|(with_reducible first|exact HB.out|apply below_alloc|apply pw_below_drewN|apply below_drew1|refine below_set ?_ (IsS51.ge HI109.out))|exact HB.out))));have n2_:=Aside0.mk (IsS51.below (by repeat (first|(with_reducible first|exact HI109.out|apply IsS51.alloc|apply IsS51.drewN|apply IsS51.drew|apply IsS51.set_1)|exact HI109.out)) hb);have n3_:=Aside0.mk (below_step (by repeat (first|(with_reducible first|exact HB.out|apply below_alloc|apply pw_below_drewN|apply below_drew1|refine below_set ?_ (IsS51.ge HI109.out))|exact HB.out)) hb);clear HO_4;clear HI109;clear HB;have HO_4:=n0_;have HO132:=n1_;have HI109:=n2_;have HB:=n3_;clear n0_ n1_ n2_ n3_;clear hb ho30)|((with_reducible refine gate_callee (f:=11) rfl ?_);refine goesL_ (some 33) rfl rfl Try.func11 (by kernel_rfl) rfl #[.pointer (some ⟨g109,0,none⟩),.int .i64 2] rfl (by (try simp only [List.map_toArray,List.map_cons,List.map_nil]);first|done|rfl|(simp only [List.length_drop,List.length_take];rfl)) ?_;(with_reducible refine (spec_l6Rd_pick.calls k1 g109 t107 t129 2 t133 t134 w _ ?side1 ?side2 A24.out).mono ?_);(case side1=>repeat (first|(with_reducible first|exact HI109.out|apply IsS51.alloc|apply IsS51.drewN|apply IsS51.drew|apply IsS51.set_1)|exact HI109.out));(case side2=>repeat (first|(with_reducible first|exact HB.out|apply below_alloc|apply pw_below_drewN|apply below_drew1|refine below_set ?_ (IsS51.ge HI109.out))|exact HB.out));rintro e w31 ⟨rfl,hi,hb,hk⟩;refine ⟨_,rfl,?_⟩;have n0_:=Aside0.mk (Kd.R_mono (Kd.R_keep (IsS51.apart (show IsS51 w _ g109 t107 t129 from by repeat (first|(with_reducible first|exact HI109.out|apply IsS51.alloc|apply IsS51.drewN|apply IsS51.drew|apply IsS51.set_1)|exact HI109.out)) (by (with_reducible repeat (first|apply Kd.R_alloc|apply Kd.R_drewN|apply Kd.R_drew));exact HO_4.out) (by decide)) hk (fun _ h=>h.2)) (fun _ h=>h.1));have n1_:=Aside0.mk (Kd.R_mono (Kd.R_keep (IsS51.apart (show IsS51 w _ g109 t107 t129 from by repeat (first|(with_reducible first|exact HI109.out|apply IsS51.alloc|apply IsS51.drewN|apply IsS51.drew|apply IsS51.set_1)|exact HI109.out)) (by (with_reducible repeat (first|apply Kd.R_alloc|apply Kd.R_drewN|apply Kd.R_drew));exact HO132.out) (by decide)) hk (fun _ h=>h.2)) (fun _ h=>h.1));have n2_:=Aside0.mk (hb);have n3_:=Aside0.mk (hi);clear HO_4;clear HO132;clear HB;clear HI109;have HO_4:=n0_;have HO132:=n1_;have HB:=n2_;have HI109:=n3_;clear n0_ n1_ n2_ n3_;(try clear hb);(try clear hb2);(try clear hk);(try clear hi);obtain ⟨Ao32,co32,eo32⟩:=Kd.R_slice HO132.out;subst eo32;have p135:0≤(t133:Int):=of_decide_eq_true (by first|(with_reducible assumption)|assumption);have q135:t133 < (y130.length:Int):=of_decide_eq_true (by first|(with_reducible assumption)|assumption);obtain ⟨ad135,e135,hx135_0⟩:=Kd.at_int (Kd.R_reads' HO132.out).2.2 t133 p135 q135;cases e135;replace p135:=eq_true p135;replace q135:=eq_true q135)|((with_reducible refine gate_builtin (b:=.append) (xs:=#[.tmp 30,.tmp 36]) rfl ?_);at_builtin;refine Kd.R_append (Kd.int .i64) (w0:=w) w.heap.size rfl (.tmp 30) (.tmp 36) 23 3 (.int .i64 0) 8 rfl Try.underlying23 info3 rfl (by decide) (by omega) u4 x4_1 (rd y130 t133) [.int .i64 (rd y130 t133)] (fun k_=>some k_ ≠ (.slice (some ad135) y130.length co32:Value).ownBlock) (fun _=>False) rfl rfl ?aP (fun _ hk=>hk.elim) ?aF ?aO ?aB ?aS ?aL ?_;(case aP=>exact rfl);(case aB=>exact (by repeat (first|(with_reducible first|exact HB.out|apply below_alloc|apply pw_below_drewN|apply below_drew1|refine below_set ?_ (IsS51.ge HI109.out))|exact HB.out)));(case aF=>exact (fun k_ hk=>Kd.fresh' (Kd.R_lt (by (with_reducible repeat (first|apply Kd.R_alloc|apply Kd.R_drewN|apply Kd.R_drew));exact HO132.out)) k_ hk));(case aO=>exact (by (with_reducible repeat (first|apply Kd.R_alloc|apply Kd.R_drewN|apply Kd.R_drew));exact Kd.R_mono HO_4.out (fun _ hk=>hk.2)));(case aS=>exact (below_size (by repeat (first|(with_reducible first|exact HB.out|apply below_alloc|apply pw_below_drewN|apply below_drew1|refine below_set ?_ (IsS51.ge HI109.out))|exact HB.out))));(case aL=>have:=LMc27.out;omega);intro v137 w33 ho hb hg hat;rw [← Ny136.out] at ho;have n0_:=Aside0.mk (IsS51.grown (by repeat (first|(with_reducible first|exact HI109.out|apply IsS51.alloc|apply IsS51.drewN|apply IsS51.drew|apply IsS51.set_1)|exact HI109.out)) hg (IsS51.own_ne HI109.out HO_4.out (by decide)));have n1_:=Aside0.mk (Kd.R_after (ok:=(fun _=>True)) (by (with_reducible repeat (first|apply Kd.R_alloc|apply Kd.R_drewN|apply Kd.R_drew));exact HO132.out) hg hat);have n2_:=Aside0.mk (hb);have n3_:=Aside0.mk (ho);clear HI109;clear HO132;clear HB;clear HO_4;have HI109:=n0_;have HO132:=n1_;have HB:=n2_;have HO138:=n3_;clear n0_ n1_ n2_ n3_;clear ho hb hg hat))
        go_ret
        exact ⟨_,by first|rfl|(simp [errW_none,errW_some] <;> rfl)|(simp [*,errW_none,errW_some] <;> rfl)|(simp [errW_none,errW_some];exact ⟨rfl,rfl⟩),by (with_reducible repeat (first|apply Kd.R_alloc|apply Kd.R_drewN|apply Kd.R_drew));exact Kd.R_mono HO138.out (fun _ hk=>trivial),by repeat (first|(with_reducible first|exact HB.out|apply below_alloc|apply pw_below_drewN|apply below_drew1|refine below_set ?_ (IsS51.ge HI109.out))|exact HB.out)⟩
       ·rw [if_neg c27] at H
        exact absurd H (by simp)
      ·rw [if_neg c26] at H
       exact absurd H (by simp)
     ·rw [if_neg c25] at H
      exact absurd H (by simp)
    ·rw [if_neg c23] at H
     have c23b0:(t128 == 0) = false:=beq_eq_false_iff_ne.mpr c23
     have c23b1:(t128 != 0) = true:=bne_iff_ne.mpr c23
     obtain rfl:=Option.some.inj H
     go_wp2_with (first|((with_reducible refine gate_callee (f:=11) rfl ?_);refine goesL_ (some 28) rfl rfl Try.func11 (by kernel_rfl) rfl #[.pointer (some ⟨g109,0,none⟩),.int .i64 16] rfl (by (try simp only [List.map_toArray,List.map_cons,List.map_nil]);first|done|rfl|(simp only [List.length_drop,List.length_take];rfl)) ?_;(with_reducible refine (spec_l6Rd_pick.calls k1 g109 t107 x110001_1 16 t128 t129 w _ ?side1 ?side2 A22.out).mono ?_);(case side1=>repeat (first|(with_reducible first|exact HI109.out|apply IsS51.alloc|apply IsS51.drewN|apply IsS51.drew|apply IsS51.set_1)|exact HI109.out));(case side2=>repeat (first|(with_reducible first|exact HB.out|apply below_alloc|apply pw_below_drewN|apply below_drew1|refine below_set ?_ (IsS51.ge HI109.out))|exact HB.out));rintro e w34 ⟨rfl,hi,hb,hk⟩;refine ⟨_,rfl,?_⟩;have n0_:=Aside0.mk (Kd.R_mono (Kd.R_keep (IsS51.apart (show IsS51 w _ g109 t107 x110001_1 from by repeat (first|(with_reducible first|exact HI109.out|apply IsS51.alloc|apply IsS51.drewN|apply IsS51.drew|apply IsS51.set_1)|exact HI109.out)) (by (with_reducible repeat (first|apply Kd.R_alloc|apply Kd.R_drewN|apply Kd.R_drew));exact HO_4.out) (by decide)) hk (fun _ h=>h.2)) (fun _ h=>h.1));have n1_:=Aside0.mk (hb);have n2_:=Aside0.mk (hi);clear HO_4;clear HB;clear HI109;have HO_4:=n0_;have HB:=n1_;have HI109:=n2_;clear n0_ n1_ n2_;(try clear hb);(try clear hb2);(try clear hk);(try clear hi)))
     go_ret
     exact ⟨_,by first|rfl|(simp [errW_none,errW_some] <;> rfl)|(simp [*,errW_none,errW_some] <;> rfl)|(simp [errW_none,errW_some];exact ⟨rfl,rfl⟩),by (with_reducible repeat (first|apply Kd.R_alloc|apply Kd.R_drewN|apply Kd.R_drew));exact HO_4.out,by repeat (first|(with_reducible first|exact HB.out|apply below_alloc|apply pw_below_drewN|apply below_drew1|refine below_set ?_ (IsS51.ge HI109.out))|exact HB.out)⟩

end Go.Proofs.Ytmedlhoahddbmaa.P
