/- What these laws reach, joined by a program of this session: contracts (written by that program over the kit's print, or by hand) and plain lemmas. -/
import Derived.Test.YtgheopbdmijlkaaK1
open Go.Proofs.YtgheopbdmijlkaaW.PrintWords renaming below_alloc → yA, pw_below_drewN → yB, below_drew1 → yC, below_set → yD, blk_drewN → yE, blk_drew → yF, blk_alloc → yG, below_step → yP, below_size → yQ
open Go.Proofs.YtgheopbdmijlkaaW.PrintWords.Kd renaming R_alloc → yH, R_drewN → yI, R_drew → yJ
open List renaming setIfInBounds_toArray → yK, set_cons_zero → yL, set_cons_succ → yM
namespace Go.Proofs.Ytgheopbdmijlkaa.P
open Go.RowKit Go.Proofs.YtgheopbdmijlkaaW.PrintWords Go.Proofs.YtgheopbdmijlkaaW.PrintLast Go.Proofs.YtgheopbdmijlkaaW.PrintMore
attribute [local go_sem] max2_int min2_int max_two min_two max_three min_three max_four min_four   -- for this text's walks alone
set_option linter.unusedVariables false
set_option linter.unusedSimpArgs false

/-! ### spec_l1Less: function 51 -/
mutual
def spec_l1Less.l0:Nat→Int→Int→List Bool→List Bool→Option (List Bool × List Bool)
 | 0,_,_,_,_=>none
 | k+1,x3,x4,x136000,x136001=>if x4<x3 then (if x4=0 then (none) else (spec_l1Less.l1 k x3 x4 ((Int.tmod x3 x4) == 0) x4 x136000 x136001)) else (if (x136000.length:Int) > 0 then (if 0≤(wrap64 ((x136000.length:Int) - 1)) then (if (wrap64 ((x136000.length:Int) - 1))<(x136000.length:Int) then (if 0≤(wrap64 (x3 - 1)) then (if (wrap64 (x3 - 1))<(x136001.length:Int) then (if ((rdOf false x136000 (wrap64 ((x136000.length:Int) - 1))) == (rdOf false x136001 (wrap64 (x3 - 1))))=true then ((some (([rdOf false x136001 (wrap64 (x3 - 1))]:List Bool):List Bool)).bind fun y140=>(if (wrap64 (x3 - 1))≤(x136001.length:Int) then ((some (x136001.take ((wrap64 (x3 - 1)):Int).toNat:List Bool)).bind fun y143=>(if y140.length+y143.length<140737488355328 then (if (wrap64 ((x136000.length:Int) - 1))≤(x136000.length:Int) then ((spec_l1Less.f k (x136000.take ((wrap64 ((x136000.length:Int) - 1)):Int).toNat) (y140++y143)).bind fun bt156=>(some (bt156.1,bt156.2))) else (none)) else (none))) else (none))) else (some (x136000,x136001))) else (none)) else (none)) else (none)) else (none)) else (some (x136000,x136001)))
def spec_l1Less.l1:Nat→Int→Int→Bool→Int→List Bool→List Bool→Option (List Bool × List Bool)
 | 0,_,_,_,_,_,_=>none
 | k+1,x3,x4,x5,x6,x136000,x136001=>if x6<x3 then (if x5=true then (if 0≤x6 then (if x6<(x136001.length:Int) then (if 0≤(wrap64 (x6 - x4)) then (if (wrap64 (x6 - x4))<(x136001.length:Int) then (spec_l1Less.l1 k x3 x4 ((rdOf false x136001 x6) == (rdOf false x136001 (wrap64 (x6 - x4)))) (wrap64 (x6+1)) x136000 x136001) else (none)) else (none)) else (none)) else (none)) else (spec_l1Less.l0 k x3 (wrap64 (x4+1)) x136000 x136001)) else (if x5=true then (if 0≤x4 then (if x4≤(x136001.length:Int) then ((spec_l1Less.f k x136000 (x136001.take (x4:Int).toNat)).bind fun bt169=>(some (bt169.1,bt169.2))) else (none)) else (none)) else (spec_l1Less.l0 k x3 (wrap64 (x4+1)) x136000 x136001))
def spec_l1Less.f:Nat→List Bool→List Bool→Option (List Bool × List Bool)
 | 0,_,_=>none
 | k+1,l0_0,l0_1=>spec_l1Less.l0 k (l0_1.length:Int) 1 l0_0 l0_1
end
theorem spec_l1Less.mono_l:∀ k,(∀ y0 y1,LeO (spec_l1Less.f k y0 y1) (spec_l1Less.f (k+1) y0 y1))∧(∀ y0 y1 y2 y3,LeO (spec_l1Less.l0 k y0 y1 y2 y3) (spec_l1Less.l0 (k+1) y0 y1 y2 y3))∧(∀ y0 y1 y2 y3 y4 y5,LeO (spec_l1Less.l1 k y0 y1 y2 y3 y4 y5) (spec_l1Less.l1 (k+1) y0 y1 y2 y3 y4 y5))
 | 0=>⟨fun _ _ r h=>by simp [spec_l1Less.f] at h,fun _ _ _ _ r h=>by simp [spec_l1Less.l0] at h,fun _ _ _ _ _ _ r h=>by simp [spec_l1Less.l1] at h⟩
 | k+1=>by
  obtain ⟨ih0,ih1,ih2⟩:=spec_l1Less.mono_l k
  refine ⟨?_,?_,?_⟩
  ·intro y0 y1
   unfold spec_l1Less.f
   repeat' first
   | (with_reducible exact ih0 _ _)
   | (with_reducible exact ih1 _ _ _ _)
   | (with_reducible exact ih2 _ _ _ _ _ _)
   | (with_reducible exact LeO.refl _)
   | (with_reducible exact LeO.none _)
   | (with_reducible refine LeO.ite ?_ ?_)
   | (with_reducible refine LeO.bind ?_ (fun _=>?_))
   | exact ih0 _ _
   | exact ih1 _ _ _ _
   | exact ih2 _ _ _ _ _ _
   | exact LeO.none _
   | refine LeO.ite ?_ ?_
   | refine LeO.bind ?_ (fun _=>?_)
  ·intro y0 y1 y2 y3
   unfold spec_l1Less.l0
   repeat' first
   | (with_reducible exact ih0 _ _)
   | (with_reducible exact ih1 _ _ _ _)
   | (with_reducible exact ih2 _ _ _ _ _ _)
   | (with_reducible exact LeO.refl _)
   | (with_reducible exact LeO.none _)
   | (with_reducible refine LeO.ite ?_ ?_)
   | (with_reducible refine LeO.bind ?_ (fun _=>?_))
   | exact ih0 _ _
   | exact ih1 _ _ _ _
   | exact ih2 _ _ _ _ _ _
   | exact LeO.none _
   | refine LeO.ite ?_ ?_
   | refine LeO.bind ?_ (fun _=>?_)
  ·intro y0 y1 y2 y3 y4 y5
   unfold spec_l1Less.l1
   repeat' first
   | (with_reducible exact ih0 _ _)
   | (with_reducible exact ih1 _ _ _ _)
   | (with_reducible exact ih2 _ _ _ _ _ _)
   | (with_reducible exact LeO.refl _)
   | (with_reducible exact LeO.none _)
   | (with_reducible refine LeO.ite ?_ ?_)
   | (with_reducible refine LeO.bind ?_ (fun _=>?_))
   | exact ih0 _ _
   | exact ih1 _ _ _ _
   | exact ih2 _ _ _ _ _ _
   | exact LeO.none _
   | refine LeO.ite ?_ ?_
   | refine LeO.bind ?_ (fun _=>?_)
theorem spec_l1Less.mono:∀ a0 a1 k,LeO (spec_l1Less.f k a0 a1) (spec_l1Less.f (k+1) a0 a1):=by
 intro a0 a1 k
 obtain ⟨ih0,ih1,ih2⟩:=spec_l1Less.mono_l k
 exact ih0 a0 a1
def spec_l1Less.T9:Bool × List (List Nat × List Nat):=(true,[([],[]),([0],[0]),([],[]),([1,2],[1,2]),([3],[3]),([],[]),([5],[5]),([],[]),([],[]),([7,8],[7,8]),([6,9],[6,9]),([10],[10]),([4,11],[4,11]),([12,0,1,2,3,4,5,6,7,8,9,10,11,12],[12])])
def spec_l1Less.B9:List Nat:=[0,1,0,7,15,0,32,0,0,384,992,2016,4095,8191]
theorem spec_l1Less.tab9:rtab .any (opsOf Try.f51 9)=spec_l1Less.T9:=by kernel_rfl
theorem spec_l1Less.bits9:waitsOk spec_l1Less.T9.2 spec_l1Less.B9=true:=by kernel_rfl
def spec_l1Less.T11:Bool × List (List Nat × List Nat):=(true,[([],[]),([0],[0]),([],[]),([2],[2]),([],[]),([3,4],[3,4]),([1,5],[1,5]),([6],[6]),([7,7,0,1,2,3,4,5,6,7],[7])])
def spec_l1Less.B11:List Nat:=[0,1,0,4,0,28,63,127,255]
theorem spec_l1Less.tab11:rtab .any (opsOf Try.f51 11)=spec_l1Less.T11:=by kernel_rfl
theorem spec_l1Less.bits11:waitsOk spec_l1Less.T11.2 spec_l1Less.B11=true:=by kernel_rfl
def spec_l1Less.T13:Bool × List (List Nat × List Nat):=(true,[([],[]),([0],[0]),([1],[1]),([2],[2]),([3,2],[2,3]),([2],[2]),([5,2],[2,5]),([4,6,2],[2,4,6]),([7,2],[2,7]),([2],[2]),([9,2],[2,9]),([2],[2]),([11,2],[2,11]),([10,12,2],[2,10,12]),([13,2],[2,13]),([8,14,2],[2,8,14]),([2,15],[2,15])])
def spec_l1Less.B13:List Nat:=[0,1,3,7,15,7,39,127,255,7,519,7,2055,7687,15879,32767,65535]
theorem spec_l1Less.tab13:rtab .any (opsOf Try.f51 13)=spec_l1Less.T13:=by kernel_rfl
theorem spec_l1Less.bits13:waitsOk spec_l1Less.T13.2 spec_l1Less.B13=true:=by kernel_rfl
def spec_l1Less.T14:Bool × List (List Nat × List Nat):=(true,[([],[]),([0],[0]),([],[]),([2],[2]),([1,3],[1,3]),([4],[4]),([5],[5]),([],[]),([7],[7]),([],[]),([9],[9]),([8,10],[8,10]),([6,11],[6,11]),([12,12,0,1,2,3,4,5,6,7,8,9,10,11,12],[12])])
def spec_l1Less.B14:List Nat:=[0,1,0,4,15,31,63,0,128,0,512,1920,4095,8191]
theorem spec_l1Less.tab14:rtab .any (opsOf Try.f51 14)=spec_l1Less.T14:=by kernel_rfl
theorem spec_l1Less.bits14:waitsOk spec_l1Less.T14.2 spec_l1Less.B14=true:=by kernel_rfl
set_option maxHeartbeats 8000000 in
set_option maxRecDepth 100000 in
theorem spec_l1Less.calls (k:Nat):∀ (P0_0_:Nat→Prop) (A0_0:Option Addr) (c0_0:Nat) (l0_0:List Bool) (P0_1_:Nat→Prop) (A0_1:Option Addr) (c0_1:Nat) (l0_1:List Bool) (r1:List Bool) (r2:List Bool) (w:World) (hs0_0:Kd.V Kd.bool 4 w w.heap.size (fun k_=>P0_0_ k_) (.slice A0_0 l0_0.length c0_0) l0_0) (hs0_1:Kd.V Kd.bool 4 w w.heap.size (fun k_=>P0_1_ k_) (.slice A0_1 l0_1.length c0_1) l0_1) (h:spec_l1Less.f k l0_0 l0_1=some (r1,r2)),
  Calls Try.prog 51 #[.agg #[.slice A0_0 l0_0.length c0_0,.slice A0_1 l0_1.length c0_1]] w fun e w'=>∃ v0_ v1_:Value,e=.returned (.agg #[v0_,v1_])∧Kd.V Kd.bool 4 w' w.heap.size (fun k_=>((P0_0_ k_ ∨ P0_1_ k_) ∨ w.heap.size≤k_)) v0_ r1∧Kd.V Kd.bool 4 w' w.heap.size (fun k_=>((P0_0_ k_ ∨ P0_1_ k_) ∨ w.heap.size≤k_)) v1_ r2∧Below w.heap.size w w':=by
 induction k using Nat.strongRecOn with
 | _ k ih =>
 intro P0_0_ A0_0 c0_0 l0_0 P0_1_ A0_1 c0_1 l0_1 r1 r2 w hs0_0 hs0_1 h
 cases k with
 | zero=>exact absurd h (by simp [spec_l1Less.f])
 | succ k =>
 simp only [spec_l1Less.f] at h
 have hu50:=Try.underlying50
 have HO0_0:=Aside0.mk (show Kd.V Kd.bool 4 w w.heap.size (fun k_=>((P0_0_ k_ ∨ P0_1_ k_) ∨ w.heap.size≤k_)) (.slice A0_0 l0_0.length c0_0) l0_0 from Kd.V_mono hs0_0 (fun k_ hk=>.inl (.inl hk)))
 have HO0_1:=Aside0.mk (show Kd.V Kd.bool 4 w w.heap.size (fun k_=>((P0_0_ k_ ∨ P0_1_ k_) ∨ w.heap.size≤k_)) (.slice A0_1 l0_1.length c0_1) l0_1 from Kd.V_mono hs0_1 (fun k_ hk=>.inl (.inr hk)))
 have HB:=Aside0.mk (Below.refl w.heap.size w)
 have H:(spec_l1Less.l0 k (l0_1.length:Int) 1 l0_0 l0_1)=some (r1,r2):=h
 clear h
 have H':=Aside0.mk H
 clear H
 go_enter Try.func51,Try.ntmps51
 go_wp2_with (first|((with_reducible refine gate_dst (N:=1) rfl ?_);refine box_event ?hg (N:=1) ?hd (cs:=#[.slice A0_0 l0_0.length c0_0,.slice A0_1 l0_1.length c0_1]) (t:=50) ?hr ?_;(case hd=>rfl);(case hg=>rfl);(case hr=>first|(go_simp;done)|(go_simp;rfl));intro gb135 hg w2 hbox hb;have n0_:=Aside0.mk (Kd.V_below (Kd.V_elderB (by (with_reducible repeat (first|apply Kd.V_alloc|apply Kd.V_drewN|apply Kd.V_drew));exact HO0_0.out) gb135 (Nat.le_of_eq hg.symm)) hb);have n1_:=Aside0.mk (Kd.V_below (Kd.V_elderB (by (with_reducible repeat (first|apply Kd.V_alloc|apply Kd.V_drewN|apply Kd.V_drew));exact HO0_1.out) gb135 (Nat.le_of_eq hg.symm)) hb);have n2_:=Aside0.mk (yP (by repeat (first|(with_reducible first|exact HB.out|apply yA|apply yB|apply yC)|exact HB.out)) hb);have n3_:=Aside0.mk (hbox);have n4_:=Aside0.mk ((by rw [hg];exact (yQ (by repeat (first|(with_reducible first|exact HB.out|apply yA|apply yB|apply yC)|exact HB.out))):w.heap.size≤gb135));have n5_:=Aside0.mk ((by rw [hg];exact (yQ (by repeat (first|(with_reducible first|exact HB.out|apply yA|apply yB|apply yC)|exact HB.out))):w.heap.size≤gb135));clear HO0_0;clear HO0_1;clear HB;have HO0_0:=n0_;have HO0_1:=n1_;have HB:=n2_;have BK135:=n3_;have GW135:=n4_;have GE135:=n5_;clear n0_ n1_ n2_ n3_ n4_ n5_;clear hb hbox hg)|((with_reducible refine gate_dst (N:=2) rfl ?_);refine box_event ?hg (N:=2) ?hd (cs:=#[.slice none 0 0,.slice none 0 0]) (t:=50) ?hr ?_;(case hd=>rfl);(case hg=>rfl);(case hr=>first|(go_simp;done)|(go_simp;rfl));intro gb136 hg w3 hbox hb;have n0_:=Aside0.mk (Kd.V_below (Kd.V_elderB (by (with_reducible repeat (first|apply Kd.V_alloc|apply Kd.V_drewN|apply Kd.V_drew));exact HO0_0.out) gb136 (Nat.le_of_eq hg.symm)) hb);have n1_:=Aside0.mk (Kd.V_below (Kd.V_elderB (by (with_reducible repeat (first|apply Kd.V_alloc|apply Kd.V_drewN|apply Kd.V_drew));exact HO0_1.out) gb136 (Nat.le_of_eq hg.symm)) hb);have n2_:=Aside0.mk (blk_below (g:=gb135) (o:=.cells #[.slice A0_0 l0_0.length c0_0,.slice A0_1 l0_1.length c0_1] 50 (0,0)) (by (with_reducible repeat (first|refine yE ?_ _|refine yF ?_|refine yG ?_ _));exact BK135.out) hb);have n3_:=Aside0.mk (yP (by repeat (first|(with_reducible first|exact HB.out|apply yA|apply yB|apply yC|refine yD ?_ GE135.out)|exact HB.out)) hb);have n4_:=Aside0.mk (hbox);have n5_:=Aside0.mk ((by rw [hg];exact (yQ (by repeat (first|(with_reducible first|exact HB.out|apply yA|apply yB|apply yC|refine yD ?_ GE135.out)|exact HB.out))):w.heap.size≤gb136));have n6_:=Aside0.mk ((by rw [hg];exact (yQ (by repeat (first|(with_reducible first|exact HB.out|apply yA|apply yB|apply yC|refine yD ?_ GE135.out)|exact HB.out))):w.heap.size≤gb136));have n7_:=Aside0.mk ((by rw [hg];exact Nat.ne_of_lt (blk_lt (g:=gb135) (o:=.cells #[.slice A0_0 l0_0.length c0_0,.slice A0_1 l0_1.length c0_1] 50 (0,0)) (by (with_reducible repeat (first|refine yE ?_ _|refine yF ?_|refine yG ?_ _));exact BK135.out)):gb135≠gb136));have n8_:=Aside0.mk ((by rw [hg];exact Nat.ne_of_gt (blk_lt (g:=gb135) (o:=.cells #[.slice A0_0 l0_0.length c0_0,.slice A0_1 l0_1.length c0_1] 50 (0,0)) (by (with_reducible repeat (first|refine yE ?_ _|refine yF ?_|refine yG ?_ _));exact BK135.out)):gb136≠gb135));clear HO0_0;clear HO0_1;clear BK135;clear HB;have HO0_0:=n0_;have HO0_1:=n1_;have BK135:=n2_;have HB:=n3_;have BK136:=n4_;have GW136:=n5_;have GE136:=n6_;have NB135_136:=n7_;have NB136_135:=n8_;clear n0_ n1_ n2_ n3_ n4_ n5_ n6_ n7_ n8_;clear hb hbox hg;have hnb4:=NB135_136.out;have hnc4:=NB136_135.out;have hcz5_0:w3.cell? ⟨gb135,0,none⟩=some (.slice A0_0 l0_0.length c0_0):=(blk_cell BK135.out 0).trans rfl;have hcz5_1:w3.cell? ⟨gb135,1,none⟩=some (.slice A0_1 l0_1.length c0_1):=(blk_cell BK135.out 1).trans rfl;have hfz5_0:=blk_frozen BK135.out 0;have hfz5_1:=blk_frozen BK135.out 1))
 go_loopg [4] k (fun kq v4 w'=>∃ (x4_1:Int),v4=.int .i64 x4_1∧Aside0 (spec_l1Less.l0 kq (l0_1.length:Int) x4_1 l0_0 l0_1=some (r1,r2))∧Aside0 (kq≤k)∧Aside0 (Kd.V Kd.bool 4 w' w.heap.size (fun k_=>((P0_0_ k_ ∨ P0_1_ k_) ∨ w.heap.size≤k_)∧k_≠gb135∧k_≠gb136) (.slice A0_0 l0_0.length c0_0) l0_0)∧Aside0 (Kd.V Kd.bool 4 w' w.heap.size (fun k_=>((P0_0_ k_ ∨ P0_1_ k_) ∨ w.heap.size≤k_)∧k_≠gb135∧k_≠gb136) (.slice A0_1 l0_1.length c0_1) l0_1)∧Aside0 (w'.heap[gb135]?=some (.cells #[(.slice A0_0 l0_0.length c0_0),(.slice A0_1 l0_1.length c0_1)] 50 (0,0)))∧Aside0 (w'.heap[gb136]?=some (.cells #[(.slice none 0 0),(.slice none 0 0)] 50 (0,0)))∧Aside0 (Below w.heap.size w w'))
 case atStart=>exact ⟨(1),(by first|rfl|(simp;done)|(simp [*];done)|(simp [Int.tmod_eq_emod_of_nonneg];done)),H',⟨Nat.le_refl _⟩,⟨by (with_reducible repeat (first|apply Kd.V_alloc|apply Kd.V_drewN|apply Kd.V_drew));exact Kd.V_mono HO0_0.out (fun _ hk=>⟨hk.1.1,⟨hk.1.2,hk.2⟩⟩)⟩,⟨by (with_reducible repeat (first|apply Kd.V_alloc|apply Kd.V_drewN|apply Kd.V_drew));exact Kd.V_mono HO0_1.out (fun _ hk=>⟨hk.1.1,⟨hk.1.2,hk.2⟩⟩)⟩,⟨by (with_reducible repeat (first|refine yE ?_ _|refine yF ?_|refine yG ?_ _));exact BK135.out⟩,⟨by (with_reducible repeat (first|refine yE ?_ _|refine yF ?_|refine yG ?_ _));exact BK136.out⟩,⟨by repeat (first|(with_reducible first|exact HB.out|apply yA|apply yB|apply yC|refine yD ?_ GE135.out|refine yD ?_ GE136.out)|exact HB.out)⟩⟩
 case round =>
  clear H'
  try clear p2
  try clear c4
  try clear c5
  try clear hcz5_0
  try clear hcz5_1
  try clear hfz5_0
  try clear hfz5_1
  obtain ⟨x4_1,rfl,HA,HK1,HO_136000,HO_136001,BK135,BK136,HB⟩:=hrel
  cases gk with
  | zero=>exact absurd HA.out (by simp [spec_l1Less.l0])
  | succ k1 =>
   have H:=HA.out
   clear HA
   simp only [spec_l1Less.l0] at H
   by_cases c6:x4_1<(l0_1.length:Int)
   ·rw [if_pos c6] at H
    have c6b0:decide (x4_1<(l0_1.length:Int))=true:=decide_eq_true c6
    clear c6
    by_cases c7:x4_1=0
    ·rw [if_pos c7] at H
     exact absurd H (by simp)
    ·rw [if_neg c7] at H
     have c7b0:(x4_1 == 0)=false:=beq_eq_false_iff_ne.mpr c7
     have c7b1:(x4_1 != 0)=true:=bne_iff_ne.mpr c7
     have H':=Aside0.mk H
     clear H
     go_wp2
     go_loopg [5,6] k1 (fun kq v5 v6 w'=>∃ (x5_2:Bool) (x6_2:Int),v5=.bool x5_2∧v6=.int .i64 x6_2∧Aside0 (spec_l1Less.l1 kq (l0_1.length:Int) x4_1 x5_2 x6_2 l0_0 l0_1=some (r1,r2))∧Aside0 (kq≤k1)∧Aside0 (Kd.V Kd.bool 4 w' w.heap.size (fun k_=>((P0_0_ k_ ∨ P0_1_ k_) ∨ w.heap.size≤k_)∧k_≠gb135∧k_≠gb136) (.slice A0_0 l0_0.length c0_0) l0_0)∧Aside0 (Kd.V Kd.bool 4 w' w.heap.size (fun k_=>((P0_0_ k_ ∨ P0_1_ k_) ∨ w.heap.size≤k_)∧k_≠gb135∧k_≠gb136) (.slice A0_1 l0_1.length c0_1) l0_1)∧Aside0 (w'.heap[gb135]?=some (.cells #[(.slice A0_0 l0_0.length c0_0),(.slice A0_1 l0_1.length c0_1)] 50 (0,0)))∧Aside0 (w'.heap[gb136]?=some (.cells #[(.slice none 0 0),(.slice none 0 0)] 50 (0,0)))∧Aside0 (Below w.heap.size w w'))
     case atStart=>exact ⟨(((Int.tmod (l0_1.length:Int) x4_1) == 0)),(x4_1),(by first|rfl|(simp;done)|(simp [*];done)|(simp [Int.tmod_eq_emod_of_nonneg];done)),(by first|rfl|(simp;done)|(simp [*];done)|(simp [Int.tmod_eq_emod_of_nonneg];done)),H',⟨Nat.le_refl _⟩,⟨by (with_reducible repeat (first|apply Kd.V_alloc|apply Kd.V_drewN|apply Kd.V_drew));exact HO_136000.out⟩,⟨by (with_reducible repeat (first|apply Kd.V_alloc|apply Kd.V_drewN|apply Kd.V_drew));exact HO_136001.out⟩,⟨by (with_reducible repeat (first|refine yE ?_ _|refine yF ?_|refine yG ?_ _));exact BK135.out⟩,⟨by (with_reducible repeat (first|refine yE ?_ _|refine yF ?_|refine yG ?_ _));exact BK136.out⟩,⟨by repeat (first|(with_reducible first|exact HB.out|apply yA|apply yB|apply yC|refine yD ?_ GE135.out|refine yD ?_ GE136.out)|exact HB.out)⟩⟩
     case round =>
      clear H'
      try clear p2
      try clear c4
      try clear c5
      try clear c6
      try clear c6b0
      try clear c7
      try clear c7b0
      try clear c7b1
      try clear hcz5_0
      try clear hcz5_1
      try clear hfz5_0
      try clear hfz5_1
      try clear p2
      obtain ⟨x5_2,x6_2,rfl,rfl,HA,HK2,HO_136000,HO_136001,BK135,BK136,HB⟩:=hrel
      cases gk with
      | zero=>exact absurd HA.out (by simp [spec_l1Less.l1])
      | succ k2 =>
       have H:=HA.out
       clear HA
       simp only [spec_l1Less.l1] at H
       by_cases c8:x6_2<(l0_1.length:Int)
       ·rw [if_pos c8] at H
        have c8b0:decide (x6_2<(l0_1.length:Int))=true:=decide_eq_true c8
        clear c8
        by_cases c9:x5_2=true
        ·subst c9
         have H1:(if 0≤x6_2 then (if x6_2<(l0_1.length:Int) then (if 0≤(wrap64 (x6_2 - x4_1)) then (if (wrap64 (x6_2 - x4_1))<(l0_1.length:Int) then (spec_l1Less.l1 k2 (l0_1.length:Int) x4_1 ((rdOf false l0_1 x6_2) == (rdOf false l0_1 (wrap64 (x6_2 - x4_1)))) (wrap64 (x6_2+1)) l0_0 l0_1) else (none)) else (none)) else (none)) else (none))=some (r1,r2):=by rw [if_pos rfl] at H;exact H
         clear H
         have H:=H1
         clear H1
         by_cases c10:0≤x6_2
         ·rw [if_pos c10] at H
          have c10b0:decide (0≤x6_2)=true:=decide_eq_true c10
          clear c10
          by_cases c11:x6_2<(l0_1.length:Int)
          ·rw [if_pos c11] at H
           have c11b0:decide (x6_2<(l0_1.length:Int))=true:=decide_eq_true c11
           clear c11
           obtain ⟨ji12,hji12⟩:∃ j_:Int,(wrap64 (x6_2 - x4_1))=j_:=⟨_,rfl⟩
           replace H:(if 0≤(ji12) then (if (ji12)<(l0_1.length:Int) then (spec_l1Less.l1 k2 (l0_1.length:Int) x4_1 ((rdOf false l0_1 x6_2) == (rdOf false l0_1 (ji12))) (wrap64 (x6_2+1)) l0_0 l0_1) else (none)) else (none))=some (r1,r2):=by first|(rw [hji12] at H;exact H)|(simp only [hji12] at H ⊢;exact H)
           have hji12w:(IntKind.i64.wrap (x6_2 - x4_1))=ji12:=(i64_w _).trans hji12
           by_cases c13:0≤(ji12)
           ·rw [if_pos c13] at H
            have c13b0:decide (0≤(ji12))=true:=decide_eq_true c13
            clear c13
            by_cases c14:(ji12)<(l0_1.length:Int)
            ·rw [if_pos c14] at H
             have c14b0:decide ((ji12)<(l0_1.length:Int))=true:=decide_eq_true c14
             clear c14
             have H':=Aside0.mk H
             clear H
             try go_wp2
             have n0_:=Aside0.mk (Kd.V_drew HO_136000.out)
             have n1_:=Aside0.mk (Kd.V_drew HO_136001.out)
             have n2_:=Aside0.mk (yF BK135.out)
             have n3_:=Aside0.mk (yF BK136.out)
             have n4_:=Aside0.mk (yC HB.out)
             clear HO_136000
             clear HO_136001
             clear BK135
             clear BK136
             clear HB
             have HO_136000:=n0_
             have HO_136001:=n1_
             have BK135:=n2_
             have BK136:=n3_
             have HB:=n4_
             clear n0_ n1_ n2_ n3_ n4_
             have p162:0≤(x6_2:Int):=of_decide_eq_true (by first|(with_reducible assumption)|assumption)
             have q162:x6_2<(l0_1.length:Int):=of_decide_eq_true (by first|(with_reducible assumption)|assumption)
             obtain ⟨ad162,e162,hx162_0⟩:=Kd.at_bool (Kd.V_reads' HO_136001.out).2.2 x6_2 p162 q162
             cases e162
             replace p162:=eq_true p162
             replace q162:=eq_true q162
             have p163:0≤((ji12):Int):=of_decide_eq_true (by first|(with_reducible assumption)|assumption)
             have q163:(ji12)<(l0_1.length:Int):=of_decide_eq_true (by first|(with_reducible assumption)|assumption)
             obtain ⟨ad163,e163,hx163_0⟩:=Kd.at_bool (Kd.V_reads' HO_136001.out).2.2 (ji12) p163 q163
             obtain rfl:ad162=ad163:=(by injection e163)
             replace p163:=eq_true p163
             replace q163:=eq_true q163
             refine start_ (n:=14) (S:=fun w'=>w'.cell? ⟨gb135,0,none⟩=some (.slice A0_0 l0_0.length c0_0)∧w'.cell? ⟨gb135,1,none⟩=some (.slice (some ad162) l0_1.length c0_1)∧w'.cell? (ad162.add (x6_2).toNat)=some (.bool (rdOf false l0_1 x6_2))∧w'.cell? (ad162.add ((ji12)).toNat)=some (.bool (rdOf false l0_1 (ji12)))) (ds:=[]) #[false,false,false,false,false,false,false,false,false,false,false,false,false,false] (by kernel_rfl) rfl rfl ⟨(blk_cell BK135.out 0).trans rfl,(blk_cell BK135.out 1).trans rfl,hx162_0,hx163_0⟩ (fun hHeld=>?_);refine with_tabW spec_l1Less.tab9 spec_l1Less.bits9 (fun HT_ HW_=>?_)
             generalize wr.drew=w15 at HO_136000 HO_136001 BK135 BK136 HB hx162_0 hx163_0 hHeld ⊢
             refine pure_ (i:=0) (N:=some 30) (v:=?_) (a':=?_) #[true,false,false,false,false,false,false,false,false,false,false,false,false,false] rfl rfl (any_of HT_.out (by kernel_rfl)) (fun _ _ _ h=>h) (Or.inl ⟨by rfl,?_⟩) ?_ ?_
             rotate_left
             ·intro w'
              go_simp
              with_reducible rfl
             rotate_left
             ·simp only [Act.put,yK,yL,yM,i64_w,i32_w]
              rfl
             refine pure_ (i:=2) (N:=some 32) (v:=?_) (a':=?_) #[true,false,true,false,false,false,false,false,false,false,false,false,false,false] rfl rfl (any_of HT_.out (by kernel_rfl)) (fun _ _ _ h=>h) (Or.inl ⟨by rfl,?_⟩) ?_ ?_
             rotate_left
             ·intro w'
              go_simp
              with_reducible rfl
             rotate_left
             ·simp only [Act.put,yK,yL,yM,i64_w,i32_w]
              rfl
             refine pure_ (i:=5) (N:=some 35) (v:=?_) (a':=?_) #[true,false,true,false,false,true,false,false,false,false,false,false,false,false] rfl rfl (any_of HT_.out (by kernel_rfl)) (fun _ _ _ h=>h) (Or.inl ⟨by rfl,?_⟩) ?_ ?_
             rotate_left
             ·intro w'
              go_simp
              with_reducible rfl
             rotate_left
             ·simp only [Act.put,yK,yL,yM,i64_w,i32_w]
              rfl
             refine pure_ (i:=7) (N:=some 37) (v:=?_) (a':=?_) #[true,false,true,false,false,true,false,true,false,false,false,false,false,false] rfl rfl (any_of HT_.out (by kernel_rfl)) (fun _ _ _ h=>h) (Or.inl ⟨by rfl,?_⟩) ?_ ?_
             rotate_left
             ·intro w'
              go_simp
              with_reducible rfl
             rotate_left
             ·simp only [Act.put,yK,yL,yM,i64_w,i32_w]
              rfl
             refine pure_ (i:=8) (N:=some 38) (v:=?_) (a':=?_) #[true,false,true,false,false,true,false,true,true,false,false,false,false,false] rfl rfl (any_of HT_.out (by kernel_rfl)) (fun _ _ _ h=>h) (Or.inl ⟨by rfl,?_⟩) ?_ ?_
             rotate_left
             ·intro w'
              go_simp
              with_reducible rfl
             rotate_left
             ·simp only [Act.put,yK,yL,yM,i64_w,i32_w]
              rfl
             refine pure_ (i:=9) (N:=some 39) (v:=?_) (a':=?_) #[true,false,true,false,false,true,false,true,true,true,false,false,false,false] rfl rfl (any_of HT_.out (by kernel_rfl)) (fun _ _ _ h=>h) (Or.inl ⟨by rfl,?_⟩) ?_ ?_
             rotate_left
             ·intro w'
              go_simp
              with_reducible rfl
             rotate_left
             ·simp only [Act.put,yK,yL,yM,i64_w,i32_w]
              rfl
             refine take_ (i:=1) (N:=some 31) (v:=?_) (a':=?_) #[true,true,true,false,false,true,false,true,true,true,false,false,false,false] rfl rfl (take_ofW HT_.out HW_.out (by kernel_rfl)) (fun _ _ _ h=>h) (Or.inl ⟨by rfl,?_⟩) hHeld ?_ ?_
             rotate_left
             ·rintro w' ⟨s0,s1,s2,s3⟩
              go_simp
              with_reducible rfl
             rotate_left
             ·simp only [Act.put,yK,yL,yM,i64_w,i32_w]
              rfl
             refine pure_ (i:=3) (N:=some 33) (v:=?_) (a':=?_) #[true,true,true,true,false,true,false,true,true,true,false,false,false,false] rfl rfl (any_of HT_.out (by kernel_rfl)) (fun _ _ _ h=>h) (Or.inl ⟨by rfl,?_⟩) ?_ ?_
             rotate_left
             ·intro w'
              go_simp
              with_reducible rfl
             rotate_left
             ·simp only [Act.put,yK,yL,yM,i64_w,i32_w]
              rfl
             refine take_ (i:=4) (N:=some 34) (v:=?_) (a':=?_) #[true,true,true,true,true,true,false,true,true,true,false,false,false,false] rfl rfl (take_ofW HT_.out HW_.out (by kernel_rfl)) (fun _ _ _ h=>h) (Or.inl ⟨by rfl,?_⟩) hHeld ?_ ?_
             rotate_left
             ·rintro w' ⟨s0,s1,s2,s3⟩
              go_simp
              with_reducible rfl
             rotate_left
             ·simp only [Act.put,yK,yL,yM,i64_w,i32_w]
              rfl
             refine take_ (i:=6) (N:=some 36) (v:=?_) (a':=?_) #[true,true,true,true,true,true,true,true,true,true,false,false,false,false] rfl rfl (take_ofW HT_.out HW_.out (by kernel_rfl)) (fun _ _ _ h=>h) (Or.inl ⟨by rfl,?_⟩) hHeld ?_ ?_
             rotate_left
             ·rintro w' ⟨s0,s1,s2,s3⟩
              go_simp
              with_reducible rfl
             rotate_left
             ·simp only [Act.put,yK,yL,yM,i64_w,i32_w]
              rfl
             refine pure_ (i:=10) (N:=some 40) (v:=?_) (a':=?_) #[true,true,true,true,true,true,true,true,true,true,true,false,false,false] rfl rfl (any_of HT_.out (by kernel_rfl)) (fun _ _ _ h=>h) (Or.inl ⟨by rfl,?_⟩) ?_ ?_
             rotate_left
             ·intro w'
              go_simp
              with_reducible rfl
             rotate_left
             ·simp only [Act.put,yK,yL,yM,i64_w,i32_w]
              rfl
             refine take_ (i:=11) (N:=some 41) (v:=?_) (a':=?_) #[true,true,true,true,true,true,true,true,true,true,true,true,false,false] rfl rfl (take_ofW HT_.out HW_.out (by kernel_rfl)) (fun _ _ _ h=>h) (Or.inl ⟨by rfl,?_⟩) hHeld ?_ ?_
             rotate_left
             ·rintro w' ⟨s0,s1,s2,s3⟩
              go_simp
              with_reducible rfl
             rotate_left
             ·simp only [Act.put,yK,yL,yM,i64_w,i32_w]
              rfl
             refine pure_ (i:=12) (N:=some 42) (v:=?_) (a':=?_) #[true,true,true,true,true,true,true,true,true,true,true,true,true,false] rfl rfl (any_of HT_.out (by kernel_rfl)) (fun _ _ _ h=>h) (Or.inl ⟨by rfl,?_⟩) ?_ ?_
             rotate_left
             ·intro w'
              go_simp
              with_reducible rfl
             rotate_left
             ·simp only [Act.put,yK,yL,yM,i64_w,i32_w]
              rfl
             refine pure_ (i:=13) (N:=some 5) (v:=?_) (a':=?_) #[true,true,true,true,true,true,true,true,true,true,true,true,true,true] rfl rfl (any_of HT_.out (by kernel_rfl)) (fun _ _ _ h=>h) (Or.inl ⟨by rfl,?_⟩) ?_ ?_
             rotate_left
             ·intro w'
              go_simp
              with_reducible rfl
             rotate_left
             ·simp only [Act.put,yK,yL,yM,i64_w,i32_w]
              rfl
             refine done_ (done_of HT_.out (by kernel_rfl)) ?_
             try go_wp2
             go_roundg k2
             case measure=>have:=HK1.out;have:=HK2.out;omega
             case rel=>exact ⟨(((rdOf false l0_1 x6_2) == (rdOf false l0_1 (ji12)))),(wrap64 (x6_2+1)),(by first|rfl|(simp;done)|(simp only [← hji12]<;>(first|rfl|simp))|(simp [*];done)),(by first|rfl|(simp;done)|(simp [*];done)|(simp [Int.tmod_eq_emod_of_nonneg];done)),H',⟨by have:=HK1.out;have:=HK2.out;omega⟩,⟨by (with_reducible repeat (first|apply Kd.V_alloc|apply Kd.V_drewN|apply Kd.V_drew));exact HO_136000.out⟩,⟨by (with_reducible repeat (first|apply Kd.V_alloc|apply Kd.V_drewN|apply Kd.V_drew));exact HO_136001.out⟩,⟨by (with_reducible repeat (first|refine yE ?_ _|refine yF ?_|refine yG ?_ _));exact BK135.out⟩,⟨by (with_reducible repeat (first|refine yE ?_ _|refine yF ?_|refine yG ?_ _));exact BK136.out⟩,⟨by repeat (first|(with_reducible first|exact HB.out|apply yA|apply yB|apply yC|refine yD ?_ GE135.out|refine yD ?_ GE136.out)|exact HB.out)⟩⟩
            ·rw [if_neg c14] at H
             exact absurd H (by simp)
           ·rw [if_neg c13] at H
            exact absurd H (by simp)
          ·rw [if_neg c11] at H
           exact absurd H (by simp)
         ·rw [if_neg c10] at H
          exact absurd H (by simp)
        ·replace c9:=Bool.eq_false_iff.mpr c9
         subst c9
         have H1:(spec_l1Less.l0 k2 (l0_1.length:Int) (wrap64 (x4_1+1)) l0_0 l0_1)=some (r1,r2):=by rw [if_neg (show ¬ (false=true) by decide)] at H;exact H
         clear H
         have H:=H1
         clear H1
         have H':=Aside0.mk H
         clear H
         go_wp2
         go_roundg k2
         case measure=>have:=HK1.out;have:=HK2.out;omega
         case rel=>exact ⟨(wrap64 (x4_1+1)),(by first|rfl|(simp;done)|(simp [*];done)|(simp [Int.tmod_eq_emod_of_nonneg];done)),H',⟨by have:=HK1.out;have:=HK2.out;omega⟩,⟨by (with_reducible repeat (first|apply Kd.V_alloc|apply Kd.V_drewN|apply Kd.V_drew));exact HO_136000.out⟩,⟨by (with_reducible repeat (first|apply Kd.V_alloc|apply Kd.V_drewN|apply Kd.V_drew));exact HO_136001.out⟩,⟨by (with_reducible repeat (first|refine yE ?_ _|refine yF ?_|refine yG ?_ _));exact BK135.out⟩,⟨by (with_reducible repeat (first|refine yE ?_ _|refine yF ?_|refine yG ?_ _));exact BK136.out⟩,⟨by repeat (first|(with_reducible first|exact HB.out|apply yA|apply yB|apply yC|refine yD ?_ GE135.out|refine yD ?_ GE136.out)|exact HB.out)⟩⟩
       ·rw [if_neg c8] at H
        have c8b0:decide (x6_2<(l0_1.length:Int))=false:=decide_eq_false c8
        clear c8
        by_cases c16:x5_2=true
        ·subst c16
         have H1:(if 0≤x4_1 then (if x4_1≤(l0_1.length:Int) then ((spec_l1Less.f k2 l0_0 (l0_1.take (x4_1:Int).toNat)).bind fun bt169=>(some (bt169.1,bt169.2))) else (none)) else (none))=some (r1,r2):=by rw [if_pos rfl] at H;exact H
         clear H
         have H:=H1
         clear H1
         by_cases c17:0≤x4_1
         ·rw [if_pos c17] at H
          have c17b0:=eq_true c17
          have c17b1:decide (0≤x4_1)=true:=decide_eq_true c17
          clear c17
          by_cases c18:x4_1≤(l0_1.length:Int)
          ·rw [if_pos c18] at H
           have c18b0:=eq_true c18
           have c18b1:decide (x4_1≤(l0_1.length:Int))=true:=decide_eq_true c18
           clear c18
           obtain ⟨y164,hy164⟩:∃ y_:List Bool,y_=(l0_1.take (x4_1:Int).toNat):=⟨_,rfl⟩
           replace H:((spec_l1Less.f k2 l0_0 y164).bind fun bt169=>(some (bt169.1,bt169.2)))=some (r1,r2):=by first|(rw [hy164];with_reducible exact H)|(have H2_:=(Option.bind_some _ _).symm.trans H;rw [hy164];with_reducible exact H2_)|(have H2_:=(Option.bind_some _ _).symm.trans H;with_reducible exact H2_)|with_reducible exact H|(rw [hy164];exact H)|exact H
           have Ny164:=Aside0.mk hy164
           clear hy164
           replace H:=Option.bind_eq_some_iff.mp H
           obtain ⟨⟨t169,t172⟩,A190,H⟩:=H
           replace H:(some (t169,t172))=some (r1,r2):=H
           have A19:=Aside0.mk A190
           clear A190
           simp only [Option.some.injEq,Prod.mk.injEq] at H
           obtain ⟨rfl,rfl⟩:=H
           try go_wp2
           have n0_:=Aside0.mk (Kd.V_drew HO_136000.out)
           have n1_:=Aside0.mk (Kd.V_drew HO_136001.out)
           have n2_:=Aside0.mk (yF BK135.out)
           have n3_:=Aside0.mk (yF BK136.out)
           have n4_:=Aside0.mk (yC HB.out)
           clear HO_136000
           clear HO_136001
           clear BK135
           clear BK136
           clear HB
           have HO_136000:=n0_
           have HO_136001:=n1_
           have BK135:=n2_
           have BK136:=n3_
           have HB:=n4_
           clear n0_ n1_ n2_ n3_ n4_
           have q21:(x4_1:Int)≤((l0_1.length:Int):Int):=of_decide_eq_true (by first|(with_reducible assumption)|assumption)
           obtain ⟨i021,hi021,_,hsz21,_⟩:=info_parts info4
           have hroom21:l0_1.length≤c0_1:=(Kd.V_reads' HO_136001.out).2.1
           have hC21:Kd.F Kd.bool _ _ A0_1 l0_1.length l0_1:=(Kd.V_at (base:=w.heap.size) HO_136001.out).2.2
           have hcut21:=cut_to (P:=Try.prog) 39 4 .i64 Try.underlying39 hi021 A0_1 l0_1.length c0_1 x4_1 (of_decide_eq_true (by first|(with_reducible assumption)|assumption)) q21 hroom21
           have hr21:=Kd.F_take (m:=(x4_1:Int).toNat) hC21 (by omega)
           have hy21:y164.length=(x4_1:Int).toNat:=(by rw [Ny164.out,List.length_take];omega)
           rw [← Ny164.out] at hr21
           rw [← hy21] at hcut21
           have HO168:=Aside0.mk (show Kd.V Kd.bool 4 _ w.heap.size _ (.slice A0_1 y164.length c0_1) y164 from Kd.V_mk (by omega) hr21)
           have HC168:=Aside0.mk (show y164.length≤c0_1 from by omega)
           clear hr21 hC21 hroom21 hi021 hsz21
           have KY21:=Aside0.mk hy21
           clear hy21
           replace q21:=eq_true q21
           refine start_ (n:=9) (S:=fun w'=>w'.cell? ⟨gb135,0,none⟩=some (.slice A0_0 l0_0.length c0_0)∧w'.cell? ⟨gb135,1,none⟩=some (.slice A0_1 l0_1.length c0_1)) (ds:=[]) #[false,false,false,false,false,false,false,false,false] (by kernel_rfl) rfl rfl ⟨(blk_cell BK135.out 0).trans rfl,(blk_cell BK135.out 1).trans rfl⟩ (fun hHeld=>?_);refine with_tabW spec_l1Less.tab11 spec_l1Less.bits11 (fun HT_ HW_=>?_)
           generalize wr.drew=w20 at HO_136000 HO_136001 BK135 BK136 HB HO168 hHeld ⊢
           refine pure_ (i:=0) (N:=some 44) (v:=?_) (a':=?_) #[true,false,false,false,false,false,false,false,false] rfl rfl (any_of HT_.out (by kernel_rfl)) (fun _ _ _ h=>h) (Or.inl ⟨by rfl,?_⟩) ?_ ?_
           rotate_left
           ·intro w'
            go_simp
            with_reducible rfl
           rotate_left
           ·simp only [Act.put,yK,yL,yM,i64_w,i32_w]
            rfl
           refine pure_ (i:=2) (N:=some 46) (v:=?_) (a':=?_) #[true,false,true,false,false,false,false,false,false] rfl rfl (any_of HT_.out (by kernel_rfl)) (fun _ _ _ h=>h) (Or.inl ⟨by rfl,?_⟩) ?_ ?_
           rotate_left
           ·intro w'
            go_simp
            with_reducible rfl
           rotate_left
           ·simp only [Act.put,yK,yL,yM,i64_w,i32_w]
            rfl
           refine pure_ (i:=4) (N:=some 48) (v:=?_) (a':=?_) #[true,false,true,false,true,false,false,false,false] rfl rfl (any_of HT_.out (by kernel_rfl)) (fun _ _ _ h=>h) (Or.inl ⟨by rfl,?_⟩) ?_ ?_
           rotate_left
           ·intro w'
            go_simp
            with_reducible rfl
           rotate_left
           ·simp only [Act.put,yK,yL,yM,i64_w,i32_w]
            rfl
           refine take_ (i:=1) (N:=some 45) (v:=?_) (a':=?_) #[true,true,true,false,true,false,false,false,false] rfl rfl (take_ofW HT_.out HW_.out (by kernel_rfl)) (fun _ _ _ h=>h) (Or.inl ⟨by rfl,?_⟩) hHeld ?_ ?_
           rotate_left
           ·rintro w' ⟨s0,s1⟩
            go_simp
            with_reducible rfl
           rotate_left
           ·simp only [Act.put,yK,yL,yM,i64_w,i32_w]
            rfl
           refine take_ (i:=3) (N:=some 47) (v:=?_) (a':=?_) #[true,true,true,true,true,false,false,false,false] rfl rfl (take_ofW HT_.out HW_.out (by kernel_rfl)) (fun _ _ _ h=>h) (Or.inl ⟨by rfl,?_⟩) hHeld ?_ ?_
           rotate_left
           ·rintro w' ⟨s0,s1⟩
            go_simp
            with_reducible rfl
           rotate_left
           ·simp only [Act.put,yK,yL,yM,i64_w,i32_w]
            rfl
           refine pure_ (i:=5) (N:=some 49) (v:=?_) (a':=?_) #[true,true,true,true,true,true,false,false,false] rfl rfl (any_of HT_.out (by kernel_rfl)) (fun _ _ _ h=>h) (Or.inl ⟨by rfl,?_⟩) ?_ ?_
           rotate_left
           ·intro w'
            go_simp
            with_reducible rfl
           rotate_left
           ·simp only [Act.put,yK,yL,yM,i64_w,i32_w]
            rfl
           refine pure_ (i:=6) (N:=some 50) (v:=?_) (a':=?_) #[true,true,true,true,true,true,true,false,false] rfl rfl (any_of HT_.out (by kernel_rfl)) (fun _ _ _ h=>h) (Or.inl ⟨by rfl,?_⟩) ?_ ?_
           rotate_left
           ·intro w'
            go_simp
            with_reducible rfl
           rotate_left
           ·simp only [Act.put,yK,yL,yM,i64_w,i32_w]
            rfl
           refine one_ (i:=7) (N:=some 51) #[true,true,true,true,true,true,true,true,false] rfl rfl (one_of HT_.out (by kernel_rfl)) (by decide) (fun K hK=>?_)
           refine goes_ Try.func51 (by kernel_rfl) rfl #[.agg #[.slice A0_0 l0_0.length c0_0,.slice A0_1 y164.length c0_1]] (by rfl) rfl rfl (by (try simp only [List.map_toArray,List.map_cons,List.map_nil]);first|done|rfl|(simp only [List.length_drop,List.length_take];rfl)) ?_
           with_reducible refine (ih k2 (by have:=HK1.out;have:=HK2.out;omega) (fun k_=>(((P0_0_ k_ ∨ P0_1_ k_) ∨ w.heap.size≤k_)∧(k_≠gb135∧k_≠gb136))) _ _ l0_0 (fun k_=>(((P0_0_ k_ ∨ P0_1_ k_) ∨ w.heap.size≤k_)∧(k_≠gb135∧k_≠gb136))) _ _ y164 t169 t172 _ ?side1 ?side2 A19.out).mono ?_
           (case side1=>exact HO_136000.out)
           (case side2=>exact HO168.out)
           rintro e w22 ⟨v170,v173,rfl,ho0,ho1,hb⟩
           refine ⟨_,rfl,?_⟩
           have n0_:=Aside0.mk (Kd.V_below (by (with_reducible repeat (first|apply Kd.V_alloc|apply Kd.V_drewN|apply Kd.V_drew));exact HO_136000.out) hb)
           have n1_:=Aside0.mk (Kd.V_below (by (with_reducible repeat (first|apply Kd.V_alloc|apply Kd.V_drewN|apply Kd.V_drew));exact HO_136001.out) hb)
           have n2_:=Aside0.mk (Kd.V_below (by (with_reducible repeat (first|apply Kd.V_alloc|apply Kd.V_drewN|apply Kd.V_drew));exact HO168.out) hb)
           have n3_:=Aside0.mk (Kd.V_lower (Kd.V_mono (ok':=fun k_=>((P0_0_ k_ ∨ P0_1_ k_) ∨ w.heap.size≤k_)∧k_≠gb135∧k_≠gb136) ho0 (fun k_ hk_=>⟨Or.elim hk_ (fun hs_=>Or.elim hs_ (fun hs_=>hs_.1) (fun hs_=>hs_.1)) (fun hn_=>(.inr (Nat.le_trans (yQ (by repeat (first|(with_reducible first|exact HB.out|apply yA|apply yB|apply yC|refine yD ?_ GE135.out|refine yD ?_ GE136.out)|exact HB.out))) hn_))),Or.elim hk_ (fun hs_=>Or.elim hs_ (fun hs_=>hs_.2.1) (fun hs_=>hs_.2.1)) (fun hn_=>(Kd.freshB (g:=gb135) (o:=.cells #[.slice A0_0 l0_0.length c0_0,.slice A0_1 l0_1.length c0_1] 50 (0,0)) (by (with_reducible repeat (first|refine yE ?_ _|refine yF ?_|refine yG ?_ _));exact BK135.out) k_ hn_)),Or.elim hk_ (fun hs_=>Or.elim hs_ (fun hs_=>hs_.2.2) (fun hs_=>hs_.2.2)) (fun hn_=>(Kd.freshB (g:=gb136) (o:=.cells #[.slice none 0 0,.slice none 0 0] 50 (0,0)) (by (with_reducible repeat (first|refine yE ?_ _|refine yF ?_|refine yG ?_ _));exact BK136.out) k_ hn_))⟩)) (yQ (by repeat (first|(with_reducible first|exact HB.out|apply yA|apply yB|apply yC|refine yD ?_ GE135.out|refine yD ?_ GE136.out)|exact HB.out))))
           have n4_:=Aside0.mk (Kd.V_lower (Kd.V_mono (ok':=fun k_=>((P0_0_ k_ ∨ P0_1_ k_) ∨ w.heap.size≤k_)∧k_≠gb135∧k_≠gb136) ho1 (fun k_ hk_=>⟨Or.elim hk_ (fun hs_=>Or.elim hs_ (fun hs_=>hs_.1) (fun hs_=>hs_.1)) (fun hn_=>(.inr (Nat.le_trans (yQ (by repeat (first|(with_reducible first|exact HB.out|apply yA|apply yB|apply yC|refine yD ?_ GE135.out|refine yD ?_ GE136.out)|exact HB.out))) hn_))),Or.elim hk_ (fun hs_=>Or.elim hs_ (fun hs_=>hs_.2.1) (fun hs_=>hs_.2.1)) (fun hn_=>(Kd.freshB (g:=gb135) (o:=.cells #[.slice A0_0 l0_0.length c0_0,.slice A0_1 l0_1.length c0_1] 50 (0,0)) (by (with_reducible repeat (first|refine yE ?_ _|refine yF ?_|refine yG ?_ _));exact BK135.out) k_ hn_)),Or.elim hk_ (fun hs_=>Or.elim hs_ (fun hs_=>hs_.2.2) (fun hs_=>hs_.2.2)) (fun hn_=>(Kd.freshB (g:=gb136) (o:=.cells #[.slice none 0 0,.slice none 0 0] 50 (0,0)) (by (with_reducible repeat (first|refine yE ?_ _|refine yF ?_|refine yG ?_ _));exact BK136.out) k_ hn_))⟩)) (yQ (by repeat (first|(with_reducible first|exact HB.out|apply yA|apply yB|apply yC|refine yD ?_ GE135.out|refine yD ?_ GE136.out)|exact HB.out))))
           have n5_:=Aside0.mk (blk_below (g:=gb135) (o:=.cells #[.slice A0_0 l0_0.length c0_0,.slice A0_1 l0_1.length c0_1] 50 (0,0)) (by (with_reducible repeat (first|refine yE ?_ _|refine yF ?_|refine yG ?_ _));exact BK135.out) hb)
           have n6_:=Aside0.mk (blk_below (g:=gb136) (o:=.cells #[.slice none 0 0,.slice none 0 0] 50 (0,0)) (by (with_reducible repeat (first|refine yE ?_ _|refine yF ?_|refine yG ?_ _));exact BK136.out) hb)
           have n7_:=Aside0.mk (yP (by repeat (first|(with_reducible first|exact HB.out|apply yA|apply yB|apply yC|refine yD ?_ GE135.out|refine yD ?_ GE136.out)|exact HB.out)) hb)
           clear HO_136000
           clear HO_136001
           clear HO168
           clear BK135
           clear BK136
           clear HB
           have HO_136000:=n0_
           have HO_136001:=n1_
           have HO168:=n2_
           have HO171:=n3_
           have HO174:=n4_
           have BK135:=n5_
           have BK136:=n6_
           have HB:=n7_
           clear n0_ n1_ n2_ n3_ n4_ n5_ n6_ n7_
           (try clear hb)
           (try clear hb2)
           (try clear hk)
           (try clear hi)
           (try clear ho0)
           (try clear ho1)
           obtain ⟨Ao23,co23,eo23⟩:=Kd.V_slice HO171.out
           (first|subst eo23|(injection eo23 with f1_ f2_ f3_;have f4_:=f1_.symm;have f5_:=f3_.symm;clear f1_ f2_ f3_;subst f4_;subst f5_))
           obtain ⟨Ao25,co25,eo25⟩:=Kd.V_slice HO174.out
           (first|subst eo25|(injection eo25 with f1_ f2_ f3_;have f4_:=f1_.symm;have f5_:=f3_.symm;clear f1_ f2_ f3_;subst f4_;subst f5_))
           refine hK.out _ _ ⟨(blk_cell BK135.out 0).trans rfl,(blk_cell BK135.out 1).trans rfl⟩ (fun hHeld=>?_)
           clear hK K
           refine norm_ (a':=?_) ?_ ?_
           rotate_left
           ·show Act.put _ (some 51) _=_
            simp only [Act.put,yK,yL,yM,i64_w,i32_w]
            rfl
           refine one_ (i:=8) (N:=none) #[true,true,true,true,true,true,true,true,true] rfl rfl (one_of HT_.out (by kernel_rfl)) (by decide) (fun K hK=>?_)
           have hs24:w22.cell? ⟨gb136,0,none⟩=some (.slice none 0 0):=(blk_cell BK136.out 0).trans rfl
           have hfs24:=blk_frozen BK136.out 0
           have hns24_0:=NB135_136.out
           have hms24_0:=NB136_135.out
           have hs26:w22.cell? ⟨gb136,1,none⟩=some (.slice none 0 0):=(blk_cell BK136.out 1).trans rfl
           have hfs26:=blk_frozen BK136.out 1
           have hns26_0:=NB135_136.out
           have hms26_0:=NB136_135.out
           refine skip_ (w1:=?_) (by rfl) rfl ?_ ?_
           rotate_left
           ·go_simp
            rfl
           refine hK.out _ _ ⟨((cell_far (p:=⟨gb136,_,none⟩) NB135_136.out _).trans (((cell_far (p:=⟨gb136,_,none⟩) NB135_136.out _).trans (hHeld.1)))),((cell_far (p:=⟨gb136,_,none⟩) NB135_136.out _).trans (((cell_far (p:=⟨gb136,_,none⟩) NB135_136.out _).trans (hHeld.2))))⟩ (fun hHeld=>?_)
           clear hK K
           refine done_ (done_of HT_.out (by kernel_rfl)) ?_
           try go_wp2
           refine bodyPost_ret (results_cell_row rfl _ _ gb136 50 #[.slice Ao23 t169.length co23,.slice Ao25 t172.length co25] (0,0) _ rfl (by (with_reducible repeat (first|refine yE ?_ _|refine yF ?_|refine yG ?_ _));refine blk_put (cs:=#[.slice Ao23 t169.length co23,.slice none 0 0]) ?_ 1 _ rfl;(with_reducible repeat (first|refine yE ?_ _|refine yF ?_|refine yG ?_ _));refine blk_put (cs:=#[.slice none 0 0,.slice none 0 0]) ?_ 0 _ rfl;(with_reducible repeat (first|refine yE ?_ _|refine yF ?_|refine yG ?_ _));exact BK136.out) Try.underlying50 rfl (by kernel_rfl)) rfl ?_
           exact ⟨_,_,by first|rfl|(simp [errW_none,errW_some]<;>rfl)|(simp [*,errW_none,errW_some]<;>rfl)|(simp [errW_none,errW_some];exact ⟨rfl,rfl⟩),by (with_reducible repeat (first|apply Kd.V_alloc|apply Kd.V_drewN|apply Kd.V_drew));exact Kd.V_mono (Kd.V_far (p:=⟨gb136,1,none⟩) (Kd.V_far (p:=⟨gb136,0,none⟩) (Kd.V_mono HO171.out (fun k_ hk=>(⟨hk,hk.2.2⟩:_∧k_≠gb136))) (fun _ hk=>hk.2) (.slice Ao23 t169.length co23)) (fun _ hk=>hk.2) (.slice Ao25 t172.length co25)) (fun _ hk=>hk.1.1),by (with_reducible repeat (first|apply Kd.V_alloc|apply Kd.V_drewN|apply Kd.V_drew));exact Kd.V_mono (Kd.V_far (p:=⟨gb136,1,none⟩) (Kd.V_far (p:=⟨gb136,0,none⟩) (Kd.V_mono HO174.out (fun k_ hk=>(⟨hk,hk.2.2⟩:_∧k_≠gb136))) (fun _ hk=>hk.2) (.slice Ao23 t169.length co23)) (fun _ hk=>hk.2) (.slice Ao25 t172.length co25)) (fun _ hk=>hk.1.1),by repeat (first|(with_reducible first|exact HB.out|apply yA|apply yB|apply yC|refine yD ?_ GE135.out|refine yD ?_ GE136.out)|exact HB.out)⟩
          ·rw [if_neg c18] at H
           exact absurd H (by simp)
         ·rw [if_neg c17] at H
          exact absurd H (by simp)
        ·replace c16:=Bool.eq_false_iff.mpr c16
         subst c16
         have H1:(spec_l1Less.l0 k2 (l0_1.length:Int) (wrap64 (x4_1+1)) l0_0 l0_1)=some (r1,r2):=by rw [if_neg (show ¬ (false=true) by decide)] at H;exact H
         clear H
         have H:=H1
         clear H1
         have H':=Aside0.mk H
         clear H
         go_wp2
         go_roundg k2
         case measure=>have:=HK1.out;have:=HK2.out;omega
         case rel=>exact ⟨(wrap64 (x4_1+1)),(by first|rfl|(simp;done)|(simp [*];done)|(simp [Int.tmod_eq_emod_of_nonneg];done)),H',⟨by have:=HK1.out;have:=HK2.out;omega⟩,⟨by (with_reducible repeat (first|apply Kd.V_alloc|apply Kd.V_drewN|apply Kd.V_drew));exact HO_136000.out⟩,⟨by (with_reducible repeat (first|apply Kd.V_alloc|apply Kd.V_drewN|apply Kd.V_drew));exact HO_136001.out⟩,⟨by (with_reducible repeat (first|refine yE ?_ _|refine yF ?_|refine yG ?_ _));exact BK135.out⟩,⟨by (with_reducible repeat (first|refine yE ?_ _|refine yF ?_|refine yG ?_ _));exact BK136.out⟩,⟨by repeat (first|(with_reducible first|exact HB.out|apply yA|apply yB|apply yC|refine yD ?_ GE135.out|refine yD ?_ GE136.out)|exact HB.out)⟩⟩
   ·rw [if_neg c6] at H
    have c6b0:decide (x4_1<(l0_1.length:Int))=false:=decide_eq_false c6
    clear c6
    by_cases c27:(l0_0.length:Int) > 0
    ·rw [if_pos c27] at H
     have c27b0:decide (0<(l0_0.length:Int))=true:=decide_eq_true c27
     have c27b1:decide (0<l0_0.length)=true:=decide_eq_true (by omega)
     clear c27
     obtain ⟨ji28,hji28⟩:∃ j_:Int,(wrap64 ((l0_0.length:Int) - 1))=j_:=⟨_,rfl⟩
     replace H:(if 0≤(ji28) then (if (ji28)<(l0_0.length:Int) then (if 0≤(wrap64 ((l0_1.length:Int) - 1)) then (if (wrap64 ((l0_1.length:Int) - 1))<(l0_1.length:Int) then (if ((rdOf false l0_0 (ji28)) == (rdOf false l0_1 (wrap64 ((l0_1.length:Int) - 1))))=true then ((some (([rdOf false l0_1 (wrap64 ((l0_1.length:Int) - 1))]:List Bool):List Bool)).bind fun y140=>(if (wrap64 ((l0_1.length:Int) - 1))≤(l0_1.length:Int) then ((some (l0_1.take ((wrap64 ((l0_1.length:Int) - 1)):Int).toNat:List Bool)).bind fun y143=>(if y140.length+y143.length<140737488355328 then (if (ji28)≤(l0_0.length:Int) then ((spec_l1Less.f k1 (l0_0.take ((ji28):Int).toNat) (y140++y143)).bind fun bt156=>(some (bt156.1,bt156.2))) else (none)) else (none))) else (none))) else (some (l0_0,l0_1))) else (none)) else (none)) else (none)) else (none))=some (r1,r2):=by first|(rw [hji28] at H;exact H)|(simp only [hji28] at H ⊢;exact H)
     have hji28w:(IntKind.i64.wrap ((l0_0.length:Int) - 1))=ji28:=(i64_w _).trans hji28
     by_cases c29:0≤(ji28)
     ·rw [if_pos c29] at H
      have c29b0:decide (0≤(ji28))=true:=decide_eq_true c29
      clear c29
      by_cases c30:(ji28)<(l0_0.length:Int)
      ·rw [if_pos c30] at H
       have c30b0:decide ((ji28)<(l0_0.length:Int))=true:=decide_eq_true c30
       clear c30
       obtain ⟨ji31,hji31⟩:∃ j_:Int,(wrap64 ((l0_1.length:Int) - 1))=j_:=⟨_,rfl⟩
       replace H:(if 0≤(ji31) then (if (ji31)<(l0_1.length:Int) then (if ((rdOf false l0_0 (ji28)) == (rdOf false l0_1 (ji31)))=true then ((some (([rdOf false l0_1 (ji31)]:List Bool):List Bool)).bind fun y140=>(if (ji31)≤(l0_1.length:Int) then ((some (l0_1.take ((ji31):Int).toNat:List Bool)).bind fun y143=>(if y140.length+y143.length<140737488355328 then (if (ji28)≤(l0_0.length:Int) then ((spec_l1Less.f k1 (l0_0.take ((ji28):Int).toNat) (y140++y143)).bind fun bt156=>(some (bt156.1,bt156.2))) else (none)) else (none))) else (none))) else (some (l0_0,l0_1))) else (none)) else (none))=some (r1,r2):=by first|(rw [hji31] at H;exact H)|(simp only [hji31] at H ⊢;exact H)
       have hji31w:(IntKind.i64.wrap ((l0_1.length:Int) - 1))=ji31:=(i64_w _).trans hji31
       by_cases c32:0≤(ji31)
       ·rw [if_pos c32] at H
        have c32b0:decide (0≤(ji31))=true:=decide_eq_true c32
        clear c32
        by_cases c33:(ji31)<(l0_1.length:Int)
        ·rw [if_pos c33] at H
         have c33b0:decide ((ji31)<(l0_1.length:Int))=true:=decide_eq_true c33
         clear c33
         by_cases c34:((rdOf false l0_0 (ji28)) == (rdOf false l0_1 (ji31)))=true
         ·rw [if_pos c34] at H
          have c34b0:((rdOf false l0_0 (ji28)) == (rdOf false l0_1 (ji31)))=true:=c34
          (try (have c34b1:decide ((rdOf false l0_0 (ji28))=(rdOf false l0_1 (ji31)))=true:=by simpa using c34))
          (try (have c34b2:((rdOf false l0_0 (ji28)) == (rdOf false l0_1 (ji31)))=true:=by simpa using c34))
          clear c34
          obtain ⟨y140,hy140⟩:∃ y_:List Bool,y_=(([rdOf false l0_1 (ji31)]:List Bool)):=⟨_,rfl⟩
          replace H:(if (ji31)≤(l0_1.length:Int) then ((some (l0_1.take ((ji31):Int).toNat:List Bool)).bind fun y143=>(if y140.length+y143.length<140737488355328 then (if (ji28)≤(l0_0.length:Int) then ((spec_l1Less.f k1 (l0_0.take ((ji28):Int).toNat) (y140++y143)).bind fun bt156=>(some (bt156.1,bt156.2))) else (none)) else (none))) else (none))=some (r1,r2):=by first|(rw [hy140];with_reducible exact H)|(have H2_:=(Option.bind_some _ _).symm.trans H;rw [hy140];with_reducible exact H2_)|(have H2_:=(Option.bind_some _ _).symm.trans H;with_reducible exact H2_)|with_reducible exact H|(rw [hy140];exact H)|exact H
          have Ny140:=Aside0.mk hy140
          clear hy140
          have c35b0:=eq_true (of_decide_eq_true (by first|(with_reducible assumption)|assumption):0≤(ji31))
          by_cases c36:(ji31)≤(l0_1.length:Int)
          ·rw [if_pos c36] at H
           have c36b0:=eq_true c36
           have c36b1:decide ((ji31)≤(l0_1.length:Int))=true:=decide_eq_true c36
           clear c36
           obtain ⟨y143,hy143⟩:∃ y_:List Bool,y_=(l0_1.take ((ji31):Int).toNat):=⟨_,rfl⟩
           replace H:(if y140.length+y143.length<140737488355328 then (if (ji28)≤(l0_0.length:Int) then ((spec_l1Less.f k1 (l0_0.take ((ji28):Int).toNat) (y140++y143)).bind fun bt156=>(some (bt156.1,bt156.2))) else (none)) else (none))=some (r1,r2):=by first|(rw [hy143];with_reducible exact H)|(have H2_:=(Option.bind_some _ _).symm.trans H;rw [hy143];with_reducible exact H2_)|(have H2_:=(Option.bind_some _ _).symm.trans H;with_reducible exact H2_)|with_reducible exact H|(rw [hy143];exact H)|exact H
           have Ny143:=Aside0.mk hy143
           clear hy143
           by_cases c37:y140.length+y143.length<140737488355328
           ·rw [if_pos c37] at H
            have LMc37:=Aside0.mk c37
            clear c37
            obtain ⟨y148,hy148⟩:∃ y_:List Bool,y_=(y140++y143):=⟨_,rfl⟩
            replace H:(if (ji28)≤(l0_0.length:Int) then ((spec_l1Less.f k1 (l0_0.take ((ji28):Int).toNat) y148).bind fun bt156=>(some (bt156.1,bt156.2))) else (none))=some (r1,r2):=by first|(rw [hy148];with_reducible exact H)|(have H2_:=(Option.bind_some _ _).symm.trans H;rw [hy148];with_reducible exact H2_)|(have H2_:=(Option.bind_some _ _).symm.trans H;with_reducible exact H2_)|with_reducible exact H|(rw [hy148];exact H)|exact H
            have Ny148:=Aside0.mk hy148
            clear hy148
            have c38b0:=eq_true (of_decide_eq_true (by first|(with_reducible assumption)|assumption):0≤(ji28))
            by_cases c39:(ji28)≤(l0_0.length:Int)
            ·rw [if_pos c39] at H
             have c39b0:=eq_true c39
             have c39b1:decide ((ji28)≤(l0_0.length:Int))=true:=decide_eq_true c39
             clear c39
             obtain ⟨y151,hy151⟩:∃ y_:List Bool,y_=(l0_0.take ((ji28):Int).toNat):=⟨_,rfl⟩
             replace H:((spec_l1Less.f k1 y151 y148).bind fun bt156=>(some (bt156.1,bt156.2)))=some (r1,r2):=by first|(rw [hy151];with_reducible exact H)|(have H2_:=(Option.bind_some _ _).symm.trans H;rw [hy151];with_reducible exact H2_)|(have H2_:=(Option.bind_some _ _).symm.trans H;with_reducible exact H2_)|with_reducible exact H|(rw [hy151];exact H)|exact H
             have Ny151:=Aside0.mk hy151
             clear hy151
             replace H:=Option.bind_eq_some_iff.mp H
             obtain ⟨⟨t156,t159⟩,A400,H⟩:=H
             replace H:(some (t156,t159))=some (r1,r2):=H
             have A40:=Aside0.mk A400
             clear A400
             simp only [Option.some.injEq,Prod.mk.injEq] at H
             obtain ⟨rfl,rfl⟩:=H
             have hnb41:=NB135_136.out
             have hnc41:=NB136_135.out
             have hcz42_0:wr.cell? ⟨gb135,0,none⟩=some (.slice A0_0 l0_0.length c0_0):=(blk_cell BK135.out 0).trans rfl
             have hcz42_1:wr.cell? ⟨gb135,1,none⟩=some (.slice A0_1 l0_1.length c0_1):=(blk_cell BK135.out 1).trans rfl
             have hfz42_0:=blk_frozen BK135.out 0
             have hfz42_1:=blk_frozen BK135.out 1
             try go_wp2
             have n0_:=Aside0.mk (Kd.V_drew HO_136000.out)
             have n1_:=Aside0.mk (Kd.V_drew HO_136001.out)
             have n2_:=Aside0.mk (yF BK135.out)
             have n3_:=Aside0.mk (yF BK136.out)
             have n4_:=Aside0.mk (yC HB.out)
             clear HO_136000
             clear HO_136001
             clear BK135
             clear BK136
             clear HB
             have HO_136000:=n0_
             have HO_136001:=n1_
             have BK135:=n2_
             have BK136:=n3_
             have HB:=n4_
             clear n0_ n1_ n2_ n3_ n4_
             have p137:0≤((ji28):Int):=of_decide_eq_true (by first|(with_reducible assumption)|assumption)
             have q137:(ji28)<(l0_0.length:Int):=of_decide_eq_true (by first|(with_reducible assumption)|assumption)
             obtain ⟨ad137,e137,hx137_0⟩:=Kd.at_bool (Kd.V_reads' HO_136000.out).2.2 (ji28) p137 q137
             cases e137
             replace p137:=eq_true p137
             replace q137:=eq_true q137
             have p138:0≤((ji31):Int):=of_decide_eq_true (by first|(with_reducible assumption)|assumption)
             have q138:(ji31)<(l0_1.length:Int):=of_decide_eq_true (by first|(with_reducible assumption)|assumption)
             obtain ⟨ad138,e138,hx138_0⟩:=Kd.at_bool (Kd.V_reads' HO_136001.out).2.2 (ji31) p138 q138
             cases e138
             replace p138:=eq_true p138
             replace q138:=eq_true q138
             refine start_ (n:=17) (S:=fun w'=>w'.cell? ⟨gb135,0,none⟩=some (.slice (some ad137) l0_0.length c0_0)∧w'.cell? ⟨gb135,1,none⟩=some (.slice (some ad138) l0_1.length c0_1)∧w'.cell? (ad137.add ((ji28)).toNat)=some (.bool (rdOf false l0_0 (ji28)))∧w'.cell? (ad138.add ((ji31)).toNat)=some (.bool (rdOf false l0_1 (ji31)))) (ds:=[]) #[false,false,false,false,false,false,false,false,false,false,false,false,false,false,false,false,false] (by kernel_rfl) rfl rfl ⟨(blk_cell BK135.out 0).trans rfl,(blk_cell BK135.out 1).trans rfl,hx137_0,hx138_0⟩ (fun hHeld=>?_);refine with_tabW spec_l1Less.tab13 spec_l1Less.bits13 (fun HT_ HW_=>?_)
             generalize wr.drew=w43 at HO_136000 HO_136001 BK135 BK136 HB hx137_0 hx138_0 hHeld ⊢
             refine pure_ (i:=0) (N:=some 55) (v:=?_) (a':=?_) #[true,false,false,false,false,false,false,false,false,false,false,false,false,false,false,false,false] rfl rfl (any_of HT_.out (by kernel_rfl)) (fun _ _ _ h=>h) (Or.inl ⟨by rfl,?_⟩) ?_ ?_
             rotate_left
             ·intro w'
              go_simp
              with_reducible rfl
             rotate_left
             ·simp only [Act.put,yK,yL,yM,i64_w,i32_w]
              rfl
             refine pure_ (i:=1) (N:=some 56) (v:=?_) (a':=?_) #[true,true,false,false,false,false,false,false,false,false,false,false,false,false,false,false,false] rfl rfl (any_of HT_.out (by kernel_rfl)) (fun _ _ _ h=>h) (Or.inl ⟨by rfl,?_⟩) ?_ ?_
             rotate_left
             ·intro w'
              go_simp
              with_reducible rfl
             rotate_left
             ·simp only [Act.put,yK,yL,yM,i64_w,i32_w]
              rfl
             refine pure_ (i:=2) (N:=some 57) (v:=?_) (a':=?_) #[true,true,true,false,false,false,false,false,false,false,false,false,false,false,false,false,false] rfl rfl (any_of HT_.out (by kernel_rfl)) (fun _ _ _ h=>h) (Or.inl ⟨by rfl,?_⟩) ?_ ?_
             rotate_left
             ·intro w'
              go_simp
              with_reducible rfl
             rotate_left
             ·simp only [Act.put,yK,yL,yM,i64_w,i32_w]
              rfl
             refine pure_ (i:=3) (N:=some 58) (v:=?_) (a':=?_) #[true,true,true,true,false,false,false,false,false,false,false,false,false,false,false,false,false] rfl rfl (any_of HT_.out (by kernel_rfl)) (fun _ _ _ h=>h) (Or.inl ⟨by rfl,?_⟩) ?_ ?_
             rotate_left
             ·intro w'
              go_simp
              with_reducible rfl
             rotate_left
             ·simp only [Act.put,yK,yL,yM,i64_w,i32_w]
              rfl
             refine pure_ (i:=5) (N:=some 60) (v:=?_) (a':=?_) #[true,true,true,true,false,true,false,false,false,false,false,false,false,false,false,false,false] rfl rfl (any_of HT_.out (by kernel_rfl)) (fun _ _ _ h=>h) (Or.inl ⟨by rfl,?_⟩) ?_ ?_
             rotate_left
             ·intro w'
              go_simp
              with_reducible rfl
             rotate_left
             ·simp only [Act.put,yK,yL,yM,i64_w,i32_w]
              rfl
             refine pure_ (i:=6) (N:=some 61) (v:=?_) (a':=?_) #[true,true,true,true,false,true,true,false,false,false,false,false,false,false,false,false,false] rfl rfl (any_of HT_.out (by kernel_rfl)) (fun _ _ _ h=>h) (Or.inl ⟨by rfl,?_⟩) ?_ ?_
             rotate_left
             ·intro w'
              go_simp
              with_reducible rfl
             rotate_left
             ·simp only [Act.put,yK,yL,yM,i64_w,i32_w]
              rfl
             refine pure_ (i:=9) (N:=some 64) (v:=?_) (a':=?_) #[true,true,true,true,false,true,true,false,false,true,false,false,false,false,false,false,false] rfl rfl (any_of HT_.out (by kernel_rfl)) (fun _ _ _ h=>h) (Or.inl ⟨by rfl,?_⟩) ?_ ?_
             rotate_left
             ·intro w'
              go_simp
              with_reducible rfl
             rotate_left
             ·simp only [Act.put,yK,yL,yM,i64_w,i32_w]
              rfl
             refine pure_ (i:=11) (N:=some 66) (v:=?_) (a':=?_) #[true,true,true,true,false,true,true,false,false,true,false,true,false,false,false,false,false] rfl rfl (any_of HT_.out (by kernel_rfl)) (fun _ _ _ h=>h) (Or.inl ⟨by rfl,?_⟩) ?_ ?_
             rotate_left
             ·intro w'
              go_simp
              with_reducible rfl
             rotate_left
             ·simp only [Act.put,yK,yL,yM,i64_w,i32_w]
              rfl
             refine pure_ (i:=12) (N:=some 67) (v:=?_) (a':=?_) #[true,true,true,true,false,true,true,false,false,true,false,true,true,false,false,false,false] rfl rfl (any_of HT_.out (by kernel_rfl)) (fun _ _ _ h=>h) (Or.inl ⟨by rfl,?_⟩) ?_ ?_
             rotate_left
             ·intro w'
              go_simp
              with_reducible rfl
             rotate_left
             ·simp only [Act.put,yK,yL,yM,i64_w,i32_w]
              rfl
             refine take_ (i:=4) (N:=some 59) (v:=?_) (a':=?_) #[true,true,true,true,true,true,true,false,false,true,false,true,true,false,false,false,false] rfl rfl (take_ofW HT_.out HW_.out (by kernel_rfl)) (fun _ _ _ h=>h) (Or.inl ⟨by rfl,?_⟩) hHeld ?_ ?_
             rotate_left
             ·rintro w' ⟨s0,s1,s2,s3⟩
              go_simp
              with_reducible rfl
             rotate_left
             ·simp only [Act.put,yK,yL,yM,i64_w,i32_w]
              rfl
             refine pure_ (i:=7) (N:=some 62) (v:=?_) (a':=?_) #[true,true,true,true,true,true,true,true,false,true,false,true,true,false,false,false,false] rfl rfl (any_of HT_.out (by kernel_rfl)) (fun _ _ _ h=>h) (Or.inl ⟨by rfl,?_⟩) ?_ ?_
             rotate_left
             ·intro w'
              go_simp
              with_reducible rfl
             rotate_left
             ·simp only [Act.put,yK,yL,yM,i64_w,i32_w]
              rfl
             refine take_ (i:=8) (N:=some 63) (v:=?_) (a':=?_) #[true,true,true,true,true,true,true,true,true,true,false,true,true,false,false,false,false] rfl rfl (take_ofW HT_.out HW_.out (by kernel_rfl)) (fun _ _ _ h=>h) (Or.inl ⟨by rfl,?_⟩) hHeld ?_ ?_
             rotate_left
             ·rintro w' ⟨s0,s1,s2,s3⟩
              go_simp
              with_reducible rfl
             rotate_left
             ·simp only [Act.put,yK,yL,yM,i64_w,i32_w]
              rfl
             refine take_ (i:=10) (N:=some 65) (v:=?_) (a':=?_) #[true,true,true,true,true,true,true,true,true,true,true,true,true,false,false,false,false] rfl rfl (take_ofW HT_.out HW_.out (by kernel_rfl)) (fun _ _ _ h=>h) (Or.inl ⟨by rfl,?_⟩) hHeld ?_ ?_
             rotate_left
             ·rintro w' ⟨s0,s1,s2,s3⟩
              go_simp
              with_reducible rfl
             rotate_left
             ·simp only [Act.put,yK,yL,yM,i64_w,i32_w]
              rfl
             refine pure_ (i:=13) (N:=some 68) (v:=?_) (a':=?_) #[true,true,true,true,true,true,true,true,true,true,true,true,true,true,false,false,false] rfl rfl (any_of HT_.out (by kernel_rfl)) (fun _ _ _ h=>h) (Or.inl ⟨by rfl,?_⟩) ?_ ?_
             rotate_left
             ·intro w'
              go_simp
              with_reducible rfl
             rotate_left
             ·simp only [Act.put,yK,yL,yM,i64_w,i32_w]
              rfl
             refine take_ (i:=14) (N:=some 69) (v:=?_) (a':=?_) #[true,true,true,true,true,true,true,true,true,true,true,true,true,true,true,false,false] rfl rfl (take_ofW HT_.out HW_.out (by kernel_rfl)) (fun _ _ _ h=>h) (Or.inl ⟨by rfl,?_⟩) hHeld ?_ ?_
             rotate_left
             ·rintro w' ⟨s0,s1,s2,s3⟩
              go_simp
              with_reducible rfl
             rotate_left
             ·simp only [Act.put,yK,yL,yM,i64_w,i32_w]
              rfl
             refine pure_ (i:=15) (N:=some 70) (v:=?_) (a':=?_) #[true,true,true,true,true,true,true,true,true,true,true,true,true,true,true,true,false] rfl rfl (any_of HT_.out (by kernel_rfl)) (fun _ _ _ h=>h) (Or.inl ⟨by rfl,?_⟩) ?_ ?_
             rotate_left
             ·intro w'
              go_simp
              with_reducible rfl
             rotate_left
             ·simp only [Act.put,yK,yL,yM,i64_w,i32_w]
              rfl
             refine pure_ (i:=16) (N:=some 71) (v:=?_) (a':=?_) #[true,true,true,true,true,true,true,true,true,true,true,true,true,true,true,true,true] rfl rfl (any_of HT_.out (by kernel_rfl)) (fun _ _ _ h=>h) (Or.inl ⟨by rfl,?_⟩) ?_ ?_
             rotate_left
             ·intro w'
              go_simp
              with_reducible rfl
             rotate_left
             ·simp only [Act.put,yK,yL,yM,i64_w,i32_w]
              rfl
             refine done_ (done_of HT_.out (by kernel_rfl)) ?_
             try go_wp2
             have n0_:=Aside0.mk (Kd.V_drew HO_136000.out)
             have n1_:=Aside0.mk (Kd.V_drew HO_136001.out)
             have n2_:=Aside0.mk (yF BK135.out)
             have n3_:=Aside0.mk (yF BK136.out)
             have n4_:=Aside0.mk (yC HB.out)
             clear HO_136000
             clear HO_136001
             clear BK135
             clear BK136
             clear HB
             have HO_136000:=n0_
             have HO_136001:=n1_
             have BK135:=n2_
             have BK136:=n3_
             have HB:=n4_
             clear n0_ n1_ n2_ n3_ n4_
             have p139:0≤((ji31):Int):=of_decide_eq_true (by first|(with_reducible assumption)|assumption)
             have q139:(ji31)<(l0_1.length:Int):=of_decide_eq_true (by first|(with_reducible assumption)|assumption)
             obtain ⟨ad139,e139,hx139_0⟩:=Kd.at_bool (Kd.V_reads' HO_136001.out).2.2 (ji31) p139 q139
             obtain rfl:ad138=ad139:=(by injection e139)
             replace p139:=eq_true p139
             replace q139:=eq_true q139
             have q45:((ji31):Int)≤((l0_1.length:Int):Int):=of_decide_eq_true (by first|(with_reducible assumption)|assumption)
             obtain ⟨i045,hi045,_,hsz45,_⟩:=info_parts info4
             have hroom45:l0_1.length≤c0_1:=(Kd.V_reads' HO_136001.out).2.1
             have hC45:Kd.F Kd.bool _ _ (some ad138) l0_1.length l0_1:=(Kd.V_at (base:=w.heap.size) HO_136001.out).2.2
             have hcut45:=cut_to (P:=Try.prog) 39 4 .i64 Try.underlying39 hi045 (some ad138) l0_1.length c0_1 (ji31) (of_decide_eq_true (by first|(with_reducible assumption)|assumption)) q45 hroom45
             have hr45:=Kd.F_take (m:=((ji31):Int).toNat) hC45 (by omega)
             have hy45:y143.length=((ji31):Int).toNat:=(by rw [Ny143.out,List.length_take];omega)
             rw [← Ny143.out] at hr45
             rw [← hy45] at hcut45
             have HO147:=Aside0.mk (show Kd.V Kd.bool 4 _ w.heap.size _ (.slice (some ad138) y143.length c0_1) y143 from Kd.V_mk (by omega) hr45)
             have HC147:=Aside0.mk (show y143.length≤c0_1 from by omega)
             clear hr45 hC45 hroom45 hi045 hsz45
             have KY45:=Aside0.mk hy45
             clear hy45
             replace q45:=eq_true q45
             refine start_ (n:=14) (S:=fun w'=>w'.cell? ⟨gb135,0,none⟩=some (.slice (some ad137) l0_0.length c0_0)∧w'.cell? ⟨gb135,1,none⟩=some (.slice (some ad138) l0_1.length c0_1)∧w'.cell? (ad138.add ((ji31)).toNat)=some (.bool (rdOf false l0_1 (ji31)))) (ds:=[12]) #[false,false,false,false,false,false,false,false,false,false,false,false,false,false] (by kernel_rfl) rfl rfl ⟨(blk_cell BK135.out 0).trans rfl,(blk_cell BK135.out 1).trans rfl,hx139_0⟩ (fun hHeld=>?_);refine with_tabW spec_l1Less.tab14 spec_l1Less.bits14 (fun HT_ HW_=>?_)
             generalize w43.drew=w44 at HO_136000 HO_136001 BK135 BK136 HB HO147 hx139_0 hHeld ⊢
             refine pure_ (i:=0) (N:=some 72) (v:=?_) (a':=?_) #[true,false,false,false,false,false,false,false,false,false,false,false,false,false] rfl rfl (any_of HT_.out (by kernel_rfl)) (fun _ _ _ h=>h) (Or.inl ⟨by rfl,?_⟩) ?_ ?_
             rotate_left
             ·intro w'
              go_simp
              with_reducible rfl
             rotate_left
             ·simp only [Act.put,yK,yL,yM,i64_w,i32_w]
              rfl
             refine pure_ (i:=2) (N:=some 74) (v:=?_) (a':=?_) #[true,false,true,false,false,false,false,false,false,false,false,false,false,false] rfl rfl (any_of HT_.out (by kernel_rfl)) (fun _ _ _ h=>h) (Or.inl ⟨by rfl,?_⟩) ?_ ?_
             rotate_left
             ·intro w'
              go_simp
              with_reducible rfl
             rotate_left
             ·simp only [Act.put,yK,yL,yM,i64_w,i32_w]
              rfl
             refine pure_ (i:=3) (N:=some 75) (v:=?_) (a':=?_) #[true,false,true,true,false,false,false,false,false,false,false,false,false,false] rfl rfl (any_of HT_.out (by kernel_rfl)) (fun _ _ _ h=>h) (Or.inl ⟨by rfl,?_⟩) ?_ ?_
             rotate_left
             ·intro w'
              go_simp
              with_reducible rfl
             rotate_left
             ·simp only [Act.put,yK,yL,yM,i64_w,i32_w]
              rfl
             refine pure_ (i:=7) (N:=some 79) (v:=?_) (a':=?_) #[true,false,true,true,false,false,false,true,false,false,false,false,false,false] rfl rfl (any_of HT_.out (by kernel_rfl)) (fun _ _ _ h=>h) (Or.inl ⟨by rfl,?_⟩) ?_ ?_
             rotate_left
             ·intro w'
              go_simp
              with_reducible rfl
             rotate_left
             ·simp only [Act.put,yK,yL,yM,i64_w,i32_w]
              rfl
             refine pure_ (i:=9) (N:=some 81) (v:=?_) (a':=?_) #[true,false,true,true,false,false,false,true,false,true,false,false,false,false] rfl rfl (any_of HT_.out (by kernel_rfl)) (fun _ _ _ h=>h) (Or.inl ⟨by rfl,?_⟩) ?_ ?_
             rotate_left
             ·intro w'
              go_simp
              with_reducible rfl
             rotate_left
             ·simp only [Act.put,yK,yL,yM,i64_w,i32_w]
              rfl
             refine pure_ (i:=10) (N:=some 82) (v:=?_) (a':=?_) #[true,false,true,true,false,false,false,true,false,true,true,false,false,false] rfl rfl (any_of HT_.out (by kernel_rfl)) (fun _ _ _ h=>h) (Or.inl ⟨by rfl,?_⟩) ?_ ?_
             rotate_left
             ·intro w'
              go_simp
              with_reducible rfl
             rotate_left
             ·simp only [Act.put,yK,yL,yM,i64_w,i32_w]
              rfl
             refine take_ (i:=1) (N:=some 73) (v:=?_) (a':=?_) #[true,true,true,true,false,false,false,true,false,true,true,false,false,false] rfl rfl (take_ofW HT_.out HW_.out (by kernel_rfl)) (fun _ _ _ h=>h) (Or.inl ⟨by rfl,?_⟩) hHeld ?_ ?_
             rotate_left
             ·rintro w' ⟨s0,s1,s2⟩
              go_simp
              with_reducible rfl
             rotate_left
             ·simp only [Act.put,yK,yL,yM,i64_w,i32_w]
              rfl
             refine pure_ (i:=4) (N:=some 76) (v:=?_) (a':=?_) #[true,true,true,true,true,false,false,true,false,true,true,false,false,false] rfl rfl (any_of HT_.out (by kernel_rfl)) (fun _ _ _ h=>h) (Or.inl ⟨by rfl,?_⟩) ?_ ?_
             rotate_left
             ·intro w'
              go_simp
              with_reducible rfl
             rotate_left
             ·simp only [Act.put,yK,yL,yM,i64_w,i32_w]
              rfl
             refine take_ (i:=5) (N:=some 77) (v:=?_) (a':=?_) #[true,true,true,true,true,true,false,true,false,true,true,false,false,false] rfl rfl (take_ofW HT_.out HW_.out (by kernel_rfl)) (fun _ _ _ h=>h) (Or.inl ⟨by rfl,?_⟩) hHeld ?_ ?_
             rotate_left
             ·rintro w' ⟨s0,s1,s2⟩
              go_simp
              with_reducible rfl
             rotate_left
             ·simp only [Act.put,yK,yL,yM,i64_w,i32_w]
              rfl
             refine take_ (i:=8) (N:=some 80) (v:=?_) (a':=?_) #[true,true,true,true,true,true,false,true,true,true,true,false,false,false] rfl rfl (take_ofW HT_.out HW_.out (by kernel_rfl)) (fun _ _ _ h=>h) (Or.inl ⟨by rfl,?_⟩) hHeld ?_ ?_
             rotate_left
             ·rintro w' ⟨s0,s1,s2⟩
              go_simp
              with_reducible rfl
             rotate_left
             ·simp only [Act.put,yK,yL,yM,i64_w,i32_w]
              rfl
             refine pure_ (i:=11) (N:=some 83) (v:=?_) (a':=?_) #[true,true,true,true,true,true,false,true,true,true,true,true,false,false] rfl rfl (any_of HT_.out (by kernel_rfl)) (fun _ _ _ h=>h) (Or.inl ⟨by rfl,?_⟩) ?_ ?_
             rotate_left
             ·intro w'
              go_simp
              with_reducible rfl
             rotate_left
             ·simp only [Act.put,yK,yL,yM,i64_w,i32_w]
              rfl
             refine one_ (i:=6) (N:=some 78) #[true,true,true,true,true,true,true,true,true,true,true,true,false,false] rfl rfl (one_of HT_.out (by kernel_rfl)) (by decide) (fun K hK=>?_)
             refine Kd.R_lit_step Kd.bool _ 4 ?hg (N:=78) ?hd (xs:=([rdOf false l0_1 (ji31)]:List Bool)) (inner:=[.bool (rdOf false l0_1 (ji31))]) (ok:=fun _=>True) (okp:=fun _=>True) ?hr ?hp (fun _ hk=>hk) trivial (Below.refl _ _) (Nat.le_refl _) (by simp) ?_;(case hd=>rfl);(case hg=>rfl);(case hr=>first|(go_simp;done)|(go_simp;rfl));(case hp=>exact (Reps.one (show Kd.M Kd.bool _ _ _ (rdOf false l0_1 (ji31)) [.bool (rdOf false l0_1 (ji31))] from rfl) (Reps.none _ _)))
             intro v141 w46 ho47 hb hg_ hnew_
             have HS2_:=(hb.cell (World.block_lt_of_cell? _ _ (hHeld.2.2))).trans (hHeld.2.2)
             clear hg_ hnew_
             (first|rw [← Ny140.out] at ho47|(simp only [Int.reduceToNat] at ho47;rw [← Ny140.out] at ho47))
             have n0_:=Aside0.mk (Kd.V_elder' (by (with_reducible repeat (first|apply Kd.V_alloc|apply Kd.V_drewN|apply Kd.V_drew));exact HO_136000.out) (Kd.R_base ho47) hb)
             have n1_:=Aside0.mk (Kd.V_elder' (by (with_reducible repeat (first|apply Kd.V_alloc|apply Kd.V_drewN|apply Kd.V_drew));exact HO_136001.out) (Kd.R_base ho47) hb)
             have n2_:=Aside0.mk (Kd.V_elder' (by (with_reducible repeat (first|apply Kd.V_alloc|apply Kd.V_drewN|apply Kd.V_drew));exact HO147.out) (Kd.R_base ho47) hb)
             have n3_:=Aside0.mk (Kd.R_lower (Kd.R_newM (M:=fun k_=>(w.heap.size≤k_)) ho47 (yQ (by repeat (first|(with_reducible first|exact HB.out|apply yA|apply yB|apply yC|refine yD ?_ GE135.out|refine yD ?_ GE136.out)|exact HB.out))) (fun k_ h_=>h_)) (yQ (by repeat (first|(with_reducible first|exact HB.out|apply yA|apply yB|apply yC|refine yD ?_ GE135.out|refine yD ?_ GE136.out)|exact HB.out))))
             have n4_:=Aside0.mk (blk_below (g:=gb135) (o:=.cells #[.slice (some ad137) l0_0.length c0_0,.slice (some ad138) l0_1.length c0_1] 50 (0,0)) (by (with_reducible repeat (first|refine yE ?_ _|refine yF ?_|refine yG ?_ _));exact BK135.out) hb)
             have n5_:=Aside0.mk (blk_below (g:=gb136) (o:=.cells #[.slice none 0 0,.slice none 0 0] 50 (0,0)) (by (with_reducible repeat (first|refine yE ?_ _|refine yF ?_|refine yG ?_ _));exact BK136.out) hb)
             have n6_:=Aside0.mk (yP (by repeat (first|(with_reducible first|exact HB.out|apply yA|apply yB|apply yC|refine yD ?_ GE135.out|refine yD ?_ GE136.out)|exact HB.out)) hb)
             clear HO_136000
             clear HO_136001
             clear HO147
             clear BK135
             clear BK136
             clear HB
             have HO_136000:=n0_
             have HO_136001:=n1_
             have HO147:=n2_
             have HO142:=n3_
             have BK135:=n4_
             have BK136:=n5_
             have HB:=n6_
             clear n0_ n1_ n2_ n3_ n4_ n5_ n6_
             clear hb ho47
             refine hK.out _ _ ⟨(blk_cell BK135.out 0).trans rfl,(blk_cell BK135.out 1).trans rfl,HS2_⟩ (fun hHeld=>?_)
             clear hK K
             refine norm_ (a':=?_) ?_ ?_
             rotate_left
             ·show Act.put _ (some 78) _=_
              simp only [Act.put,yK,yL,yM,i64_w,i32_w]
              rfl
             refine last_ (i:=12) (N:=some 84) #[true,true,true,true,true,true,true,true,true,true,true,true,true,false] rfl rfl (one_of HT_.out (by kernel_rfl)) (by decide) (fun K hK=>?_)
             refine Kd.R_append_rows_step Kd.bool (w0:=w) w.heap.size (by rfl) (.tmp 78) (.tmp 83) 39 4 (.bool false) 1 rfl Try.underlying39 info4 rfl (by decide) (by omega) v141 y140 y143 _ _ _ (fun k_=>(w.heap.size≤k_)) (fun _=>False) rfl rfl ?aO ?aR (fun _ _ h=>h) (fun _ h=>h.elim) ?aF ?aB ?aS ?aL ?_
             (case aR=>repeat (first|exact (Kd.V_reads' HO147.out).2.2|(with_reducible refine Kd.C_alloc ?_ _)|(with_reducible refine Kd.C_drewN ?_ _)|(with_reducible refine Kd.C_drew ?_)))
             (case aB=>exact (by repeat (first|(with_reducible first|exact HB.out|apply yA|apply yB|apply yC|refine yD ?_ GE135.out|refine yD ?_ GE136.out)|exact HB.out)))
             (case aF=>exact (fun k_ hk=>(Nat.le_trans (yQ (by repeat (first|(with_reducible first|exact HB.out|apply yA|apply yB|apply yC|refine yD ?_ GE135.out|refine yD ?_ GE136.out)|exact HB.out))) hk)))
             (case aO=>exact (by (with_reducible repeat (first|apply yH|apply yI|apply yJ));exact Kd.R_mono HO142.out (fun _ hk=>hk.1)))
             (case aS=>exact (yQ (by repeat (first|(with_reducible first|exact HB.out|apply yA|apply yB|apply yC|refine yD ?_ GE135.out|refine yD ?_ GE136.out)|exact HB.out))))
             (case aL=>have:=LMc37.out;omega)
             intro v149 w48 ho hb hg hat
             rw [← Ny148.out] at ho
             have n0_:=Aside0.mk (Kd.V_afterv (ok:=(fun k_=>((P0_0_ k_ ∨ P0_1_ k_) ∨ w.heap.size≤k_)∧k_≠gb135∧k_≠gb136)) (by (with_reducible repeat (first|apply Kd.V_alloc|apply Kd.V_drewN|apply Kd.V_drew));exact HO_136000.out) hg hat)
             have n1_:=Aside0.mk (Kd.V_afterv (ok:=(fun k_=>((P0_0_ k_ ∨ P0_1_ k_) ∨ w.heap.size≤k_)∧k_≠gb135∧k_≠gb136)) (by (with_reducible repeat (first|apply Kd.V_alloc|apply Kd.V_drewN|apply Kd.V_drew));exact HO_136001.out) hg hat)
             have n2_:=Aside0.mk (blk_grown (g:=gb135) (o:=.cells #[.slice (some ad137) l0_0.length c0_0,.slice (some ad138) l0_1.length c0_1] 50 (0,0)) (by (with_reducible repeat (first|refine yE ?_ _|refine yF ?_|refine yG ?_ _));exact BK135.out) hg (Kd.R_ne HO142.out BK135.out (by decide)))
             have n3_:=Aside0.mk (blk_grown (g:=gb136) (o:=.cells #[.slice none 0 0,.slice none 0 0] 50 (0,0)) (by (with_reducible repeat (first|refine yE ?_ _|refine yF ?_|refine yG ?_ _));exact BK136.out) hg (Kd.R_ne HO142.out BK136.out (by decide)))
             have n4_:=Aside0.mk (Kd.V_afterv (ok:=(fun k_=>((P0_0_ k_ ∨ P0_1_ k_) ∨ w.heap.size≤k_)∧k_≠gb135∧k_≠gb136)) (by (with_reducible repeat (first|apply Kd.V_alloc|apply Kd.V_drewN|apply Kd.V_drew));exact HO147.out) hg hat)
             have n5_:=Aside0.mk (hb)
             have n6_:=Aside0.mk (ho)
             clear HO_136000
             clear HO_136001
             clear BK135
             clear BK136
             clear HO147
             clear HB
             clear HO142
             have HO_136000:=n0_
             have HO_136001:=n1_
             have BK135:=n2_
             have BK136:=n3_
             have HO147:=n4_
             have HB:=n5_
             have HO150:=n6_
             clear n0_ n1_ n2_ n3_ n4_ n5_ n6_
             clear ho hb hg hat
             refine hK.out _ _ ?_
             clear hK K
             refine norm_ (a':=?_) ?_ ?_
             rotate_left
             ·show Act.put _ (some 84) _=_
              simp only [Act.put,yK,yL,yM,i64_w,i32_w]
              rfl
             refine pure_ (i:=13) (N:=some 8) (v:=?_) (a':=?_) #[true,true,true,true,true,true,true,true,true,true,true,true,true,true] rfl rfl (any_of HT_.out (by kernel_rfl)) (fun _ _ _ h=>h) (Or.inl ⟨by rfl,?_⟩) ?_ ?_
             rotate_left
             ·intro w'
              go_simp
              with_reducible rfl
             rotate_left
             ·simp only [Act.put,yK,yL,yM,i64_w,i32_w]
              rfl
             refine done_ (done_of HT_.out (by kernel_rfl)) ?_
             have hcz49_0:w48.cell? ⟨gb135,0,none⟩=some (.slice (some ad137) l0_0.length c0_0):=(blk_cell BK135.out 0).trans rfl
             have hcz49_1:w48.cell? ⟨gb135,1,none⟩=some (.slice (some ad138) l0_1.length c0_1):=(blk_cell BK135.out 1).trans rfl
             have hfz49_0:=blk_frozen BK135.out 0
             have hfz49_1:=blk_frozen BK135.out 1
             have q50:((ji28):Int)≤((l0_0.length:Int):Int):=of_decide_eq_true (by first|(with_reducible assumption)|assumption)
             obtain ⟨i050,hi050,_,hsz50,_⟩:=info_parts info4
             have hroom50:l0_0.length≤c0_0:=(Kd.V_reads' HO_136000.out).2.1
             have hC50:Kd.F Kd.bool _ _ (some ad137) l0_0.length l0_0:=(Kd.V_at (base:=w.heap.size) HO_136000.out).2.2
             have hcut50:=cut_to (P:=Try.prog) 39 4 .i64 Try.underlying39 hi050 (some ad137) l0_0.length c0_0 (ji28) (of_decide_eq_true (by first|(with_reducible assumption)|assumption)) q50 hroom50
             have hr50:=Kd.F_take (m:=((ji28):Int).toNat) hC50 (by omega)
             have hy50:y151.length=((ji28):Int).toNat:=(by rw [Ny151.out,List.length_take];omega)
             rw [← Ny151.out] at hr50
             rw [← hy50] at hcut50
             have HO155:=Aside0.mk (show Kd.V Kd.bool 4 _ w.heap.size _ (.slice (some ad137) y151.length c0_0) y151 from Kd.V_mk (by omega) hr50)
             have HC155:=Aside0.mk (show y151.length≤c0_0 from by omega)
             clear hr50 hC50 hroom50 hi050 hsz50
             have KY50:=Aside0.mk hy50
             clear hy50
             replace q50:=eq_true q50
             obtain ⟨Ao51,co51,eo51⟩:=Kd.R_slice HO150.out
             subst eo51
             try go_wp2_with (first|((with_reducible refine gate_callee (f:=51) rfl ?_);refine goesL_ (some 92) rfl rfl Try.func51 (by kernel_rfl) rfl #[.agg #[.slice (some ad137) y151.length c0_0,.slice Ao51 y148.length co51]] rfl (by (try simp only [List.map_toArray,List.map_cons,List.map_nil]);first|done|rfl|(simp only [List.length_drop,List.length_take];rfl)) ?_;(with_reducible refine (ih k1 (by have:=HK1.out;omega) (fun k_=>((((P0_0_ k_ ∨ P0_1_ k_) ∨ w.heap.size≤k_)∧(k_≠gb135∧k_≠gb136))∧some k_≠(.slice Ao51 y148.length co51:Value).ownBlock)) _ _ y151 (fun k_=>some k_=(.slice Ao51 y148.length co51:Value).ownBlock) _ _ y148 t156 t159 _ ?side1 ?side2 A40.out).mono ?_);(case side1=>exact HO155.out);(case side2=>exact Kd.R_V (Kd.R_tight rfl (Kd.R_types (Kd.R_types (HO150.out) BK135.out (by decide)) BK136.out (by decide))));rintro e w52 ⟨v157,v160,rfl,ho0,ho1,hb⟩;refine ⟨_,rfl,?_⟩;have n0_:=Aside0.mk (Kd.V_below (by (with_reducible repeat (first|apply Kd.V_alloc|apply Kd.V_drewN|apply Kd.V_drew));exact HO_136000.out) hb);have n1_:=Aside0.mk (Kd.V_below (by (with_reducible repeat (first|apply Kd.V_alloc|apply Kd.V_drewN|apply Kd.V_drew));exact HO_136001.out) hb);have n2_:=Aside0.mk (Kd.V_below (by (with_reducible repeat (first|apply Kd.V_alloc|apply Kd.V_drewN|apply Kd.V_drew));exact HO147.out) hb);have n3_:=Aside0.mk (Kd.R_below (by (with_reducible repeat (first|apply yH|apply yI|apply yJ));exact HO150.out) hb);have n4_:=Aside0.mk (Kd.V_below (by (with_reducible repeat (first|apply Kd.V_alloc|apply Kd.V_drewN|apply Kd.V_drew));exact HO155.out) hb);have n5_:=Aside0.mk (Kd.V_lower (Kd.V_mono (ok':=fun k_=>((P0_0_ k_ ∨ P0_1_ k_) ∨ w.heap.size≤k_)∧k_≠gb135∧k_≠gb136) ho0 (fun k_ hk_=>⟨Or.elim hk_ (fun hs_=>Or.elim hs_ (fun hs_=>hs_.1.1) (fun hs_=>(.inr (((Kd.R_types (Kd.R_types (HO150.out) BK135.out (by decide)) BK136.out (by decide)).1 k_ hs_.symm).1.1)))) (fun hn_=>(.inr (Nat.le_trans (yQ (by repeat (first|(with_reducible first|exact HB.out|apply yA|apply yB|apply yC|refine yD ?_ GE135.out|refine yD ?_ GE136.out)|exact HB.out))) hn_))),Or.elim hk_ (fun hs_=>Or.elim hs_ (fun hs_=>hs_.1.2.1) (fun hs_=>((Kd.R_types (Kd.R_types (HO150.out) BK135.out (by decide)) BK136.out (by decide)).1 k_ hs_.symm).1.2)) (fun hn_=>(Kd.freshB (g:=gb135) (o:=.cells #[.slice (some ad137) l0_0.length c0_0,.slice (some ad138) l0_1.length c0_1] 50 (0,0)) (by (with_reducible repeat (first|refine yE ?_ _|refine yF ?_|refine yG ?_ _));exact BK135.out) k_ hn_)),Or.elim hk_ (fun hs_=>Or.elim hs_ (fun hs_=>hs_.1.2.2) (fun hs_=>((Kd.R_types (Kd.R_types (HO150.out) BK135.out (by decide)) BK136.out (by decide)).1 k_ hs_.symm).2)) (fun hn_=>(Kd.freshB (g:=gb136) (o:=.cells #[.slice none 0 0,.slice none 0 0] 50 (0,0)) (by (with_reducible repeat (first|refine yE ?_ _|refine yF ?_|refine yG ?_ _));exact BK136.out) k_ hn_))⟩)) (yQ (by repeat (first|(with_reducible first|exact HB.out|apply yA|apply yB|apply yC|refine yD ?_ GE135.out|refine yD ?_ GE136.out)|exact HB.out))));have n6_:=Aside0.mk (Kd.V_lower (Kd.V_mono (ok':=fun k_=>((P0_0_ k_ ∨ P0_1_ k_) ∨ w.heap.size≤k_)∧k_≠gb135∧k_≠gb136) ho1 (fun k_ hk_=>⟨Or.elim hk_ (fun hs_=>Or.elim hs_ (fun hs_=>hs_.1.1) (fun hs_=>(.inr (((Kd.R_types (Kd.R_types (HO150.out) BK135.out (by decide)) BK136.out (by decide)).1 k_ hs_.symm).1.1)))) (fun hn_=>(.inr (Nat.le_trans (yQ (by repeat (first|(with_reducible first|exact HB.out|apply yA|apply yB|apply yC|refine yD ?_ GE135.out|refine yD ?_ GE136.out)|exact HB.out))) hn_))),Or.elim hk_ (fun hs_=>Or.elim hs_ (fun hs_=>hs_.1.2.1) (fun hs_=>((Kd.R_types (Kd.R_types (HO150.out) BK135.out (by decide)) BK136.out (by decide)).1 k_ hs_.symm).1.2)) (fun hn_=>(Kd.freshB (g:=gb135) (o:=.cells #[.slice (some ad137) l0_0.length c0_0,.slice (some ad138) l0_1.length c0_1] 50 (0,0)) (by (with_reducible repeat (first|refine yE ?_ _|refine yF ?_|refine yG ?_ _));exact BK135.out) k_ hn_)),Or.elim hk_ (fun hs_=>Or.elim hs_ (fun hs_=>hs_.1.2.2) (fun hs_=>((Kd.R_types (Kd.R_types (HO150.out) BK135.out (by decide)) BK136.out (by decide)).1 k_ hs_.symm).2)) (fun hn_=>(Kd.freshB (g:=gb136) (o:=.cells #[.slice none 0 0,.slice none 0 0] 50 (0,0)) (by (with_reducible repeat (first|refine yE ?_ _|refine yF ?_|refine yG ?_ _));exact BK136.out) k_ hn_))⟩)) (yQ (by repeat (first|(with_reducible first|exact HB.out|apply yA|apply yB|apply yC|refine yD ?_ GE135.out|refine yD ?_ GE136.out)|exact HB.out))));have n7_:=Aside0.mk (blk_below (g:=gb135) (o:=.cells #[.slice (some ad137) l0_0.length c0_0,.slice (some ad138) l0_1.length c0_1] 50 (0,0)) (by (with_reducible repeat (first|refine yE ?_ _|refine yF ?_|refine yG ?_ _));exact BK135.out) hb);have n8_:=Aside0.mk (blk_below (g:=gb136) (o:=.cells #[.slice none 0 0,.slice none 0 0] 50 (0,0)) (by (with_reducible repeat (first|refine yE ?_ _|refine yF ?_|refine yG ?_ _));exact BK136.out) hb);have n9_:=Aside0.mk (yP (by repeat (first|(with_reducible first|exact HB.out|apply yA|apply yB|apply yC|refine yD ?_ GE135.out|refine yD ?_ GE136.out)|exact HB.out)) hb);clear HO_136000;clear HO_136001;clear HO147;clear HO150;clear HO155;clear BK135;clear BK136;clear HB;have HO_136000:=n0_;have HO_136001:=n1_;have HO147:=n2_;have HO150:=n3_;have HO155:=n4_;have HO158:=n5_;have HO161:=n6_;have BK135:=n7_;have BK136:=n8_;have HB:=n9_;clear n0_ n1_ n2_ n3_ n4_ n5_ n6_ n7_ n8_ n9_;(try clear hb);(try clear hb2);(try clear hk);(try clear hi);(try clear ho0);(try clear ho1);obtain ⟨Ao53,co53,eo53⟩:=Kd.V_slice HO158.out;subst eo53;have hcz54_0:w52.cell? ⟨gb136,0,none⟩=some (.slice none 0 0):=(blk_cell BK136.out 0).trans rfl;have hcz54_1:w52.cell? ⟨gb136,1,none⟩=some (.slice none 0 0):=(blk_cell BK136.out 1).trans rfl;have hfz54_0:=blk_frozen BK136.out 0;have hfz54_1:=blk_frozen BK136.out 1;obtain ⟨Ao55,co55,eo55⟩:=Kd.V_slice HO161.out;subst eo55))
             refine bodyPost_ret (results_cell_row rfl _ _ gb136 50 #[.slice Ao53 t156.length co53,.slice Ao55 t159.length co55] (0,0) _ rfl (by (with_reducible repeat (first|refine yE ?_ _|refine yF ?_|refine yG ?_ _));refine blk_put (cs:=#[.slice Ao53 t156.length co53,.slice none 0 0]) ?_ 1 _ rfl;(with_reducible repeat (first|refine yE ?_ _|refine yF ?_|refine yG ?_ _));refine blk_put (cs:=#[.slice none 0 0,.slice none 0 0]) ?_ 0 _ rfl;(with_reducible repeat (first|refine yE ?_ _|refine yF ?_|refine yG ?_ _));exact BK136.out) Try.underlying50 rfl (by kernel_rfl)) rfl ?_
             exact ⟨_,_,by first|rfl|(simp [errW_none,errW_some]<;>rfl)|(simp only [← hji28,← hji31];first|rfl|(simp [errW_none,errW_some]<;>rfl))|(simp [*,errW_none,errW_some]<;>rfl),by (with_reducible repeat (first|apply Kd.V_alloc|apply Kd.V_drewN|apply Kd.V_drew));exact Kd.V_mono (Kd.V_far (p:=⟨gb136,1,none⟩) (Kd.V_far (p:=⟨gb136,0,none⟩) (Kd.V_mono HO158.out (fun k_ hk=>(⟨hk,hk.2.2⟩:_∧k_≠gb136))) (fun _ hk=>hk.2) (.slice Ao53 t156.length co53)) (fun _ hk=>hk.2) (.slice Ao55 t159.length co55)) (fun _ hk=>hk.1.1),by (with_reducible repeat (first|apply Kd.V_alloc|apply Kd.V_drewN|apply Kd.V_drew));exact Kd.V_mono (Kd.V_far (p:=⟨gb136,1,none⟩) (Kd.V_far (p:=⟨gb136,0,none⟩) (Kd.V_mono HO161.out (fun k_ hk=>(⟨hk,hk.2.2⟩:_∧k_≠gb136))) (fun _ hk=>hk.2) (.slice Ao53 t156.length co53)) (fun _ hk=>hk.2) (.slice Ao55 t159.length co55)) (fun _ hk=>hk.1.1),by repeat (first|(with_reducible first|exact HB.out|apply yA|apply yB|apply yC|refine yD ?_ GE135.out|refine yD ?_ GE136.out)|exact HB.out)⟩
            ·rw [if_neg c39] at H
             exact absurd H (by simp)
           ·rw [if_neg c37] at H
            exact absurd H (by simp)
          ·rw [if_neg c36] at H
           exact absurd H (by simp)
         ·rw [if_neg c34] at H
          have c34b0:((rdOf false l0_0 (ji28)) == (rdOf false l0_1 (ji31)))=false:=by simpa using c34
          (try (have c34b1:decide ((rdOf false l0_0 (ji28))=(rdOf false l0_1 (ji31)))=false:=by simpa using c34))
          (try (have c34b2:((rdOf false l0_0 (ji28)) == (rdOf false l0_1 (ji31)))=false:=by simpa using c34))
          (try (have c34b3:¬ ((rdOf false l0_0 (ji28))=(rdOf false l0_1 (ji31))):=by simpa using c34))
          clear c34
          simp only [Option.some.injEq,Prod.mk.injEq] at H
          obtain ⟨rfl,rfl⟩:=H
          have hnb56:=NB135_136.out
          have hnc56:=NB136_135.out
          have hcz57_0:wr.cell? ⟨gb135,0,none⟩=some (.slice A0_0 l0_0.length c0_0):=(blk_cell BK135.out 0).trans rfl
          have hcz57_1:wr.cell? ⟨gb135,1,none⟩=some (.slice A0_1 l0_1.length c0_1):=(blk_cell BK135.out 1).trans rfl
          have hfz57_0:=blk_frozen BK135.out 0
          have hfz57_1:=blk_frozen BK135.out 1
          try go_wp2
          have n0_:=Aside0.mk (Kd.V_drew HO_136000.out)
          have n1_:=Aside0.mk (Kd.V_drew HO_136001.out)
          have n2_:=Aside0.mk (yF BK135.out)
          have n3_:=Aside0.mk (yF BK136.out)
          have n4_:=Aside0.mk (yC HB.out)
          clear HO_136000
          clear HO_136001
          clear BK135
          clear BK136
          clear HB
          have HO_136000:=n0_
          have HO_136001:=n1_
          have BK135:=n2_
          have BK136:=n3_
          have HB:=n4_
          clear n0_ n1_ n2_ n3_ n4_
          have p137:0≤((ji28):Int):=of_decide_eq_true (by first|(with_reducible assumption)|assumption)
          have q137:(ji28)<(l0_0.length:Int):=of_decide_eq_true (by first|(with_reducible assumption)|assumption)
          obtain ⟨ad137,e137,hx137_0⟩:=Kd.at_bool (Kd.V_reads' HO_136000.out).2.2 (ji28) p137 q137
          cases e137
          replace p137:=eq_true p137
          replace q137:=eq_true q137
          have p138:0≤((ji31):Int):=of_decide_eq_true (by first|(with_reducible assumption)|assumption)
          have q138:(ji31)<(l0_1.length:Int):=of_decide_eq_true (by first|(with_reducible assumption)|assumption)
          obtain ⟨ad138,e138,hx138_0⟩:=Kd.at_bool (Kd.V_reads' HO_136001.out).2.2 (ji31) p138 q138
          cases e138
          replace p138:=eq_true p138
          replace q138:=eq_true q138
          refine start_ (n:=17) (S:=fun w'=>w'.cell? ⟨gb135,0,none⟩=some (.slice (some ad137) l0_0.length c0_0)∧w'.cell? ⟨gb135,1,none⟩=some (.slice (some ad138) l0_1.length c0_1)∧w'.cell? (ad137.add ((ji28)).toNat)=some (.bool (rdOf false l0_0 (ji28)))∧w'.cell? (ad138.add ((ji31)).toNat)=some (.bool (rdOf false l0_1 (ji31)))) (ds:=[]) #[false,false,false,false,false,false,false,false,false,false,false,false,false,false,false,false,false] (by kernel_rfl) rfl rfl ⟨(blk_cell BK135.out 0).trans rfl,(blk_cell BK135.out 1).trans rfl,hx137_0,hx138_0⟩ (fun hHeld=>?_);refine with_tabW spec_l1Less.tab13 spec_l1Less.bits13 (fun HT_ HW_=>?_)
          generalize wr.drew=w58 at HO_136000 HO_136001 BK135 BK136 HB hx137_0 hx138_0 hHeld ⊢
          refine pure_ (i:=0) (N:=some 55) (v:=?_) (a':=?_) #[true,false,false,false,false,false,false,false,false,false,false,false,false,false,false,false,false] rfl rfl (any_of HT_.out (by kernel_rfl)) (fun _ _ _ h=>h) (Or.inl ⟨by rfl,?_⟩) ?_ ?_
          rotate_left
          ·intro w'
           go_simp
           with_reducible rfl
          rotate_left
          ·simp only [Act.put,yK,yL,yM,i64_w,i32_w]
           rfl
          refine pure_ (i:=1) (N:=some 56) (v:=?_) (a':=?_) #[true,true,false,false,false,false,false,false,false,false,false,false,false,false,false,false,false] rfl rfl (any_of HT_.out (by kernel_rfl)) (fun _ _ _ h=>h) (Or.inl ⟨by rfl,?_⟩) ?_ ?_
          rotate_left
          ·intro w'
           go_simp
           with_reducible rfl
          rotate_left
          ·simp only [Act.put,yK,yL,yM,i64_w,i32_w]
           rfl
          refine pure_ (i:=2) (N:=some 57) (v:=?_) (a':=?_) #[true,true,true,false,false,false,false,false,false,false,false,false,false,false,false,false,false] rfl rfl (any_of HT_.out (by kernel_rfl)) (fun _ _ _ h=>h) (Or.inl ⟨by rfl,?_⟩) ?_ ?_
          rotate_left
          ·intro w'
           go_simp
           with_reducible rfl
          rotate_left
          ·simp only [Act.put,yK,yL,yM,i64_w,i32_w]
           rfl
          refine pure_ (i:=3) (N:=some 58) (v:=?_) (a':=?_) #[true,true,true,true,false,false,false,false,false,false,false,false,false,false,false,false,false] rfl rfl (any_of HT_.out (by kernel_rfl)) (fun _ _ _ h=>h) (Or.inl ⟨by rfl,?_⟩) ?_ ?_
          rotate_left
          ·intro w'
           go_simp
           with_reducible rfl
          rotate_left
          ·simp only [Act.put,yK,yL,yM,i64_w,i32_w]
           rfl
          refine pure_ (i:=5) (N:=some 60) (v:=?_) (a':=?_) #[true,true,true,true,false,true,false,false,false,false,false,false,false,false,false,false,false] rfl rfl (any_of HT_.out (by kernel_rfl)) (fun _ _ _ h=>h) (Or.inl ⟨by rfl,?_⟩) ?_ ?_
          rotate_left
          ·intro w'
           go_simp
           with_reducible rfl
          rotate_left
          ·simp only [Act.put,yK,yL,yM,i64_w,i32_w]
           rfl
          refine pure_ (i:=6) (N:=some 61) (v:=?_) (a':=?_) #[true,true,true,true,false,true,true,false,false,false,false,false,false,false,false,false,false] rfl rfl (any_of HT_.out (by kernel_rfl)) (fun _ _ _ h=>h) (Or.inl ⟨by rfl,?_⟩) ?_ ?_
          rotate_left
          ·intro w'
           go_simp
           with_reducible rfl
          rotate_left
          ·simp only [Act.put,yK,yL,yM,i64_w,i32_w]
           rfl
          refine pure_ (i:=9) (N:=some 64) (v:=?_) (a':=?_) #[true,true,true,true,false,true,true,false,false,true,false,false,false,false,false,false,false] rfl rfl (any_of HT_.out (by kernel_rfl)) (fun _ _ _ h=>h) (Or.inl ⟨by rfl,?_⟩) ?_ ?_
          rotate_left
          ·intro w'
           go_simp
           with_reducible rfl
          rotate_left
          ·simp only [Act.put,yK,yL,yM,i64_w,i32_w]
           rfl
          refine pure_ (i:=11) (N:=some 66) (v:=?_) (a':=?_) #[true,true,true,true,false,true,true,false,false,true,false,true,false,false,false,false,false] rfl rfl (any_of HT_.out (by kernel_rfl)) (fun _ _ _ h=>h) (Or.inl ⟨by rfl,?_⟩) ?_ ?_
          rotate_left
          ·intro w'
           go_simp
           with_reducible rfl
          rotate_left
          ·simp only [Act.put,yK,yL,yM,i64_w,i32_w]
           rfl
          refine pure_ (i:=12) (N:=some 67) (v:=?_) (a':=?_) #[true,true,true,true,false,true,true,false,false,true,false,true,true,false,false,false,false] rfl rfl (any_of HT_.out (by kernel_rfl)) (fun _ _ _ h=>h) (Or.inl ⟨by rfl,?_⟩) ?_ ?_
          rotate_left
          ·intro w'
           go_simp
           with_reducible rfl
          rotate_left
          ·simp only [Act.put,yK,yL,yM,i64_w,i32_w]
           rfl
          refine take_ (i:=4) (N:=some 59) (v:=?_) (a':=?_) #[true,true,true,true,true,true,true,false,false,true,false,true,true,false,false,false,false] rfl rfl (take_ofW HT_.out HW_.out (by kernel_rfl)) (fun _ _ _ h=>h) (Or.inl ⟨by rfl,?_⟩) hHeld ?_ ?_
          rotate_left
          ·rintro w' ⟨s0,s1,s2,s3⟩
           go_simp
           with_reducible rfl
          rotate_left
          ·simp only [Act.put,yK,yL,yM,i64_w,i32_w]
           rfl
          refine pure_ (i:=7) (N:=some 62) (v:=?_) (a':=?_) #[true,true,true,true,true,true,true,true,false,true,false,true,true,false,false,false,false] rfl rfl (any_of HT_.out (by kernel_rfl)) (fun _ _ _ h=>h) (Or.inl ⟨by rfl,?_⟩) ?_ ?_
          rotate_left
          ·intro w'
           go_simp
           with_reducible rfl
          rotate_left
          ·simp only [Act.put,yK,yL,yM,i64_w,i32_w]
           rfl
          refine take_ (i:=8) (N:=some 63) (v:=?_) (a':=?_) #[true,true,true,true,true,true,true,true,true,true,false,true,true,false,false,false,false] rfl rfl (take_ofW HT_.out HW_.out (by kernel_rfl)) (fun _ _ _ h=>h) (Or.inl ⟨by rfl,?_⟩) hHeld ?_ ?_
          rotate_left
          ·rintro w' ⟨s0,s1,s2,s3⟩
           go_simp
           with_reducible rfl
          rotate_left
          ·simp only [Act.put,yK,yL,yM,i64_w,i32_w]
           rfl
          refine take_ (i:=10) (N:=some 65) (v:=?_) (a':=?_) #[true,true,true,true,true,true,true,true,true,true,true,true,true,false,false,false,false] rfl rfl (take_ofW HT_.out HW_.out (by kernel_rfl)) (fun _ _ _ h=>h) (Or.inl ⟨by rfl,?_⟩) hHeld ?_ ?_
          rotate_left
          ·rintro w' ⟨s0,s1,s2,s3⟩
           go_simp
           with_reducible rfl
          rotate_left
          ·simp only [Act.put,yK,yL,yM,i64_w,i32_w]
           rfl
          refine pure_ (i:=13) (N:=some 68) (v:=?_) (a':=?_) #[true,true,true,true,true,true,true,true,true,true,true,true,true,true,false,false,false] rfl rfl (any_of HT_.out (by kernel_rfl)) (fun _ _ _ h=>h) (Or.inl ⟨by rfl,?_⟩) ?_ ?_
          rotate_left
          ·intro w'
           go_simp
           with_reducible rfl
          rotate_left
          ·simp only [Act.put,yK,yL,yM,i64_w,i32_w]
           rfl
          refine take_ (i:=14) (N:=some 69) (v:=?_) (a':=?_) #[true,true,true,true,true,true,true,true,true,true,true,true,true,true,true,false,false] rfl rfl (take_ofW HT_.out HW_.out (by kernel_rfl)) (fun _ _ _ h=>h) (Or.inl ⟨by rfl,?_⟩) hHeld ?_ ?_
          rotate_left
          ·rintro w' ⟨s0,s1,s2,s3⟩
           go_simp
           with_reducible rfl
          rotate_left
          ·simp only [Act.put,yK,yL,yM,i64_w,i32_w]
           rfl
          refine pure_ (i:=15) (N:=some 70) (v:=?_) (a':=?_) #[true,true,true,true,true,true,true,true,true,true,true,true,true,true,true,true,false] rfl rfl (any_of HT_.out (by kernel_rfl)) (fun _ _ _ h=>h) (Or.inl ⟨by rfl,?_⟩) ?_ ?_
          rotate_left
          ·intro w'
           go_simp
           with_reducible rfl
          rotate_left
          ·simp only [Act.put,yK,yL,yM,i64_w,i32_w]
           rfl
          refine pure_ (i:=16) (N:=some 71) (v:=?_) (a':=?_) #[true,true,true,true,true,true,true,true,true,true,true,true,true,true,true,true,true] rfl rfl (any_of HT_.out (by kernel_rfl)) (fun _ _ _ h=>h) (Or.inl ⟨by rfl,?_⟩) ?_ ?_
          rotate_left
          ·intro w'
           go_simp
           with_reducible rfl
          rotate_left
          ·simp only [Act.put,yK,yL,yM,i64_w,i32_w]
           rfl
          refine done_ (done_of HT_.out (by kernel_rfl)) ?_
          have hcz59_0:w58.cell? ⟨gb135,0,none⟩=some (.slice (some ad137) l0_0.length c0_0):=(blk_cell BK135.out 0).trans rfl
          have hcz59_1:w58.cell? ⟨gb135,1,none⟩=some (.slice (some ad138) l0_1.length c0_1):=(blk_cell BK135.out 1).trans rfl
          have hfz59_0:=blk_frozen BK135.out 0
          have hfz59_1:=blk_frozen BK135.out 1
          have hcz60_0:w58.cell? ⟨gb136,0,none⟩=some (.slice none 0 0):=(blk_cell BK136.out 0).trans rfl
          have hcz60_1:w58.cell? ⟨gb136,1,none⟩=some (.slice none 0 0):=(blk_cell BK136.out 1).trans rfl
          have hfz60_0:=blk_frozen BK136.out 0
          have hfz60_1:=blk_frozen BK136.out 1
          try go_wp2
          refine bodyPost_ret (results_cell_row rfl _ _ gb136 50 #[.slice (some ad137) l0_0.length c0_0,.slice (some ad138) l0_1.length c0_1] (0,0) _ rfl (by (with_reducible repeat (first|refine yE ?_ _|refine yF ?_|refine yG ?_ _));refine blk_put (cs:=#[.slice (some ad137) l0_0.length c0_0,.slice none 0 0]) ?_ 1 _ rfl;(with_reducible repeat (first|refine yE ?_ _|refine yF ?_|refine yG ?_ _));refine blk_put (cs:=#[.slice none 0 0,.slice none 0 0]) ?_ 0 _ rfl;(with_reducible repeat (first|refine yE ?_ _|refine yF ?_|refine yG ?_ _));exact BK136.out) Try.underlying50 rfl (by kernel_rfl)) rfl ?_
          exact ⟨_,_,by first|rfl|(simp [errW_none,errW_some]<;>rfl)|(simp only [← hji28,← hji31];first|rfl|(simp [errW_none,errW_some]<;>rfl))|(simp [*,errW_none,errW_some]<;>rfl),by (with_reducible repeat (first|apply Kd.V_alloc|apply Kd.V_drewN|apply Kd.V_drew));exact Kd.V_mono (Kd.V_far (p:=⟨gb136,1,none⟩) (Kd.V_far (p:=⟨gb136,0,none⟩) (Kd.V_mono HO_136000.out (fun k_ hk=>(⟨hk,hk.2.2⟩:_∧k_≠gb136))) (fun _ hk=>hk.2) (.slice (some ad137) l0_0.length c0_0)) (fun _ hk=>hk.2) (.slice (some ad138) l0_1.length c0_1)) (fun _ hk=>hk.1.1),by (with_reducible repeat (first|apply Kd.V_alloc|apply Kd.V_drewN|apply Kd.V_drew));exact Kd.V_mono (Kd.V_far (p:=⟨gb136,1,none⟩) (Kd.V_far (p:=⟨gb136,0,none⟩) (Kd.V_mono HO_136001.out (fun k_ hk=>(⟨hk,hk.2.2⟩:_∧k_≠gb136))) (fun _ hk=>hk.2) (.slice (some ad137) l0_0.length c0_0)) (fun _ hk=>hk.2) (.slice (some ad138) l0_1.length c0_1)) (fun _ hk=>hk.1.1),by repeat (first|(with_reducible first|exact HB.out|apply yA|apply yB|apply yC|refine yD ?_ GE135.out|refine yD ?_ GE136.out)|exact HB.out)⟩
        ·rw [if_neg c33] at H
         exact absurd H (by simp)
       ·rw [if_neg c32] at H
        exact absurd H (by simp)
      ·rw [if_neg c30] at H
       exact absurd H (by simp)
     ·rw [if_neg c29] at H
      exact absurd H (by simp)
    ·rw [if_neg c27] at H
     have c27b0:decide (0<(l0_0.length:Int))=false:=decide_eq_false c27
     have c27b1:decide (0<l0_0.length)=false:=decide_eq_false (by omega)
     clear c27
     simp only [Option.some.injEq,Prod.mk.injEq] at H
     obtain ⟨rfl,rfl⟩:=H
     have hnb61:=NB135_136.out
     have hnc61:=NB136_135.out
     have hcz62_0:wr.cell? ⟨gb135,0,none⟩=some (.slice A0_0 l0_0.length c0_0):=(blk_cell BK135.out 0).trans rfl
     have hcz62_1:wr.cell? ⟨gb135,1,none⟩=some (.slice A0_1 l0_1.length c0_1):=(blk_cell BK135.out 1).trans rfl
     have hfz62_0:=blk_frozen BK135.out 0
     have hfz62_1:=blk_frozen BK135.out 1
     try go_wp2
     have n0_:=Aside0.mk (Kd.V_drew HO_136000.out)
     have n1_:=Aside0.mk (Kd.V_drew HO_136001.out)
     have n2_:=Aside0.mk (yF BK135.out)
     have n3_:=Aside0.mk (yF BK136.out)
     have n4_:=Aside0.mk (yC HB.out)
     clear HO_136000
     clear HO_136001
     clear BK135
     clear BK136
     clear HB
     have HO_136000:=n0_
     have HO_136001:=n1_
     have BK135:=n2_
     have BK136:=n3_
     have HB:=n4_
     clear n0_ n1_ n2_ n3_ n4_
     refine start_ (n:=17) (S:=fun w'=>True) (ds:=[]) #[false,false,false,false,false,false,false,false,false,false,false,false,false,false,false,false,false] (by kernel_rfl) rfl rfl trivial (fun hHeld=>?_);refine with_tabW spec_l1Less.tab13 spec_l1Less.bits13 (fun HT_ HW_=>?_)
     generalize wr.drew=w63 at HO_136000 HO_136001 BK135 BK136 HB hHeld ⊢
     refine pure_ (i:=0) (N:=some 55) (v:=?_) (a':=?_) #[true,false,false,false,false,false,false,false,false,false,false,false,false,false,false,false,false] rfl rfl (any_of HT_.out (by kernel_rfl)) (fun _ _ _ h=>h) (Or.inl ⟨by rfl,?_⟩) ?_ ?_
     rotate_left
     ·intro w'
      go_simp
      with_reducible rfl
     rotate_left
     ·simp only [Act.put,yK,yL,yM,i64_w,i32_w]
      rfl
     refine pure_ (i:=1) (N:=some 56) (v:=?_) (a':=?_) #[true,true,false,false,false,false,false,false,false,false,false,false,false,false,false,false,false] rfl rfl (any_of HT_.out (by kernel_rfl)) (fun _ _ _ h=>h) (Or.inl ⟨by rfl,?_⟩) ?_ ?_
     rotate_left
     ·intro w'
      go_simp
      with_reducible rfl
     rotate_left
     ·simp only [Act.put,yK,yL,yM,i64_w,i32_w]
      rfl
     refine pure_ (i:=2) (N:=some 57) (v:=?_) (a':=?_) #[true,true,true,false,false,false,false,false,false,false,false,false,false,false,false,false,false] rfl rfl (any_of HT_.out (by kernel_rfl)) (fun _ _ _ h=>h) (Or.inl ⟨by rfl,?_⟩) ?_ ?_
     rotate_left
     ·intro w'
      go_simp
      with_reducible rfl
     rotate_left
     ·simp only [Act.put,yK,yL,yM,i64_w,i32_w]
      rfl
     refine pure_ (i:=3) (N:=some 58) (v:=undef) (a':=?_) #[true,true,true,true,false,false,false,false,false,false,false,false,false,false,false,false,false] rfl rfl (any_of HT_.out (by kernel_rfl)) (fun _ _ _ h=>h) (Or.inr ⟨by rfl,rfl⟩) ?_ ?_
     rotate_left
     ·simp only [Act.put,yK,yL,yM,i64_w,i32_w]
      rfl
     refine pure_ (i:=4) (N:=some 59) (v:=undef) (a':=?_) #[true,true,true,true,true,false,false,false,false,false,false,false,false,false,false,false,false] rfl rfl (any_of HT_.out (by kernel_rfl)) (fun _ _ _ h=>h) (Or.inr ⟨by rfl,rfl⟩) ?_ ?_
     rotate_left
     ·simp only [Act.put,yK,yL,yM,i64_w,i32_w]
      rfl
     refine pure_ (i:=5) (N:=some 60) (v:=undef) (a':=?_) #[true,true,true,true,true,true,false,false,false,false,false,false,false,false,false,false,false] rfl rfl (any_of HT_.out (by kernel_rfl)) (fun _ _ _ h=>h) (Or.inr ⟨by rfl,rfl⟩) ?_ ?_
     rotate_left
     ·simp only [Act.put,yK,yL,yM,i64_w,i32_w]
      rfl
     refine pure_ (i:=6) (N:=some 61) (v:=undef) (a':=?_) #[true,true,true,true,true,true,true,false,false,false,false,false,false,false,false,false,false] rfl rfl (any_of HT_.out (by kernel_rfl)) (fun _ _ _ h=>h) (Or.inr ⟨by rfl,rfl⟩) ?_ ?_
     rotate_left
     ·simp only [Act.put,yK,yL,yM,i64_w,i32_w]
      rfl
     refine pure_ (i:=7) (N:=some 62) (v:=undef) (a':=?_) #[true,true,true,true,true,true,true,true,false,false,false,false,false,false,false,false,false] rfl rfl (any_of HT_.out (by kernel_rfl)) (fun _ _ _ h=>h) (Or.inr ⟨by rfl,rfl⟩) ?_ ?_
     rotate_left
     ·simp only [Act.put,yK,yL,yM,i64_w,i32_w]
      rfl
     refine pure_ (i:=8) (N:=some 63) (v:=undef) (a':=?_) #[true,true,true,true,true,true,true,true,true,false,false,false,false,false,false,false,false] rfl rfl (any_of HT_.out (by kernel_rfl)) (fun _ _ _ h=>h) (Or.inr ⟨by rfl,rfl⟩) ?_ ?_
     rotate_left
     ·simp only [Act.put,yK,yL,yM,i64_w,i32_w]
      rfl
     refine pure_ (i:=9) (N:=some 64) (v:=undef) (a':=?_) #[true,true,true,true,true,true,true,true,true,true,false,false,false,false,false,false,false] rfl rfl (any_of HT_.out (by kernel_rfl)) (fun _ _ _ h=>h) (Or.inr ⟨by rfl,rfl⟩) ?_ ?_
     rotate_left
     ·simp only [Act.put,yK,yL,yM,i64_w,i32_w]
      rfl
     refine pure_ (i:=10) (N:=some 65) (v:=undef) (a':=?_) #[true,true,true,true,true,true,true,true,true,true,true,false,false,false,false,false,false] rfl rfl (any_of HT_.out (by kernel_rfl)) (fun _ _ _ h=>h) (Or.inr ⟨by rfl,rfl⟩) ?_ ?_
     rotate_left
     ·simp only [Act.put,yK,yL,yM,i64_w,i32_w]
      rfl
     refine pure_ (i:=11) (N:=some 66) (v:=undef) (a':=?_) #[true,true,true,true,true,true,true,true,true,true,true,true,false,false,false,false,false] rfl rfl (any_of HT_.out (by kernel_rfl)) (fun _ _ _ h=>h) (Or.inr ⟨by rfl,rfl⟩) ?_ ?_
     rotate_left
     ·simp only [Act.put,yK,yL,yM,i64_w,i32_w]
      rfl
     refine pure_ (i:=12) (N:=some 67) (v:=undef) (a':=?_) #[true,true,true,true,true,true,true,true,true,true,true,true,true,false,false,false,false] rfl rfl (any_of HT_.out (by kernel_rfl)) (fun _ _ _ h=>h) (Or.inr ⟨by rfl,rfl⟩) ?_ ?_
     rotate_left
     ·simp only [Act.put,yK,yL,yM,i64_w,i32_w]
      rfl
     refine pure_ (i:=13) (N:=some 68) (v:=undef) (a':=?_) #[true,true,true,true,true,true,true,true,true,true,true,true,true,true,false,false,false] rfl rfl (any_of HT_.out (by kernel_rfl)) (fun _ _ _ h=>h) (Or.inr ⟨by rfl,rfl⟩) ?_ ?_
     rotate_left
     ·simp only [Act.put,yK,yL,yM,i64_w,i32_w]
      rfl
     refine pure_ (i:=14) (N:=some 69) (v:=undef) (a':=?_) #[true,true,true,true,true,true,true,true,true,true,true,true,true,true,true,false,false] rfl rfl (any_of HT_.out (by kernel_rfl)) (fun _ _ _ h=>h) (Or.inr ⟨by rfl,rfl⟩) ?_ ?_
     rotate_left
     ·simp only [Act.put,yK,yL,yM,i64_w,i32_w]
      rfl
     refine pure_ (i:=15) (N:=some 70) (v:=undef) (a':=?_) #[true,true,true,true,true,true,true,true,true,true,true,true,true,true,true,true,false] rfl rfl (any_of HT_.out (by kernel_rfl)) (fun _ _ _ h=>h) (Or.inr ⟨by rfl,rfl⟩) ?_ ?_
     rotate_left
     ·simp only [Act.put,yK,yL,yM,i64_w,i32_w]
      rfl
     refine pure_ (i:=16) (N:=some 71) (v:=?_) (a':=?_) #[true,true,true,true,true,true,true,true,true,true,true,true,true,true,true,true,true] rfl rfl (any_of HT_.out (by kernel_rfl)) (fun _ _ _ h=>h) (Or.inl ⟨by rfl,?_⟩) ?_ ?_
     rotate_left
     ·intro w'
      go_simp
      with_reducible rfl
     rotate_left
     ·simp only [Act.put,yK,yL,yM,i64_w,i32_w]
      rfl
     refine done_ (done_of HT_.out (by kernel_rfl)) ?_
     have hcz64_0:w63.cell? ⟨gb135,0,none⟩=some (.slice A0_0 l0_0.length c0_0):=(blk_cell BK135.out 0).trans rfl
     have hcz64_1:w63.cell? ⟨gb135,1,none⟩=some (.slice A0_1 l0_1.length c0_1):=(blk_cell BK135.out 1).trans rfl
     have hfz64_0:=blk_frozen BK135.out 0
     have hfz64_1:=blk_frozen BK135.out 1
     have hcz65_0:w63.cell? ⟨gb136,0,none⟩=some (.slice none 0 0):=(blk_cell BK136.out 0).trans rfl
     have hcz65_1:w63.cell? ⟨gb136,1,none⟩=some (.slice none 0 0):=(blk_cell BK136.out 1).trans rfl
     have hfz65_0:=blk_frozen BK136.out 0
     have hfz65_1:=blk_frozen BK136.out 1
     try go_wp2
     refine bodyPost_ret (results_cell_row rfl _ _ gb136 50 #[.slice A0_0 l0_0.length c0_0,.slice A0_1 l0_1.length c0_1] (0,0) _ rfl (by (with_reducible repeat (first|refine yE ?_ _|refine yF ?_|refine yG ?_ _));refine blk_put (cs:=#[.slice A0_0 l0_0.length c0_0,.slice none 0 0]) ?_ 1 _ rfl;(with_reducible repeat (first|refine yE ?_ _|refine yF ?_|refine yG ?_ _));refine blk_put (cs:=#[.slice none 0 0,.slice none 0 0]) ?_ 0 _ rfl;(with_reducible repeat (first|refine yE ?_ _|refine yF ?_|refine yG ?_ _));exact BK136.out) Try.underlying50 rfl (by kernel_rfl)) rfl ?_
     exact ⟨_,_,by first|rfl|(simp [errW_none,errW_some]<;>rfl)|(simp [*,errW_none,errW_some]<;>rfl)|(simp [errW_none,errW_some];exact ⟨rfl,rfl⟩),by (with_reducible repeat (first|apply Kd.V_alloc|apply Kd.V_drewN|apply Kd.V_drew));exact Kd.V_mono (Kd.V_far (p:=⟨gb136,1,none⟩) (Kd.V_far (p:=⟨gb136,0,none⟩) (Kd.V_mono HO_136000.out (fun k_ hk=>(⟨hk,hk.2.2⟩:_∧k_≠gb136))) (fun _ hk=>hk.2) (.slice A0_0 l0_0.length c0_0)) (fun _ hk=>hk.2) (.slice A0_1 l0_1.length c0_1)) (fun _ hk=>hk.1.1),by (with_reducible repeat (first|apply Kd.V_alloc|apply Kd.V_drewN|apply Kd.V_drew));exact Kd.V_mono (Kd.V_far (p:=⟨gb136,1,none⟩) (Kd.V_far (p:=⟨gb136,0,none⟩) (Kd.V_mono HO_136001.out (fun k_ hk=>(⟨hk,hk.2.2⟩:_∧k_≠gb136))) (fun _ hk=>hk.2) (.slice A0_0 l0_0.length c0_0)) (fun _ hk=>hk.2) (.slice A0_1 l0_1.length c0_1)) (fun _ hk=>hk.1.1),by repeat (first|(with_reducible first|exact HB.out|apply yA|apply yB|apply yC|refine yD ?_ GE135.out|refine yD ?_ GE136.out)|exact HB.out)⟩

end Go.Proofs.Ytgheopbdmijlkaa.P

namespace Go.Proofs.Ytgheopbdmijlkaa.P
open Go.RowKit Go.Proofs.YtgheopbdmijlkaaW.PrintWords Go.Proofs.YtgheopbdmijlkaaW.PrintLast Go.Proofs.YtgheopbdmijlkaaW.PrintMore
attribute [local go_sem] max2_int min2_int max_two min_two max_three min_three max_four min_four   -- for this text's walks alone
set_option linter.unusedVariables false
set_option linter.unusedSimpArgs false

/-! ### spec_l6In: function 57 -/
def spec_l6In.f (a0:Int) (a1:Int) (a2:Int):Option (Bool):=if a0 ≥ a1 then (some (decide (a0≤a2))) else (some false)
set_option maxHeartbeats 8000000 in
set_option maxRecDepth 100000 in
theorem spec_l6In.calls (a0:Int) (a1:Int) (a2:Int) (r:Bool) (w:World) (h:spec_l6In.f a0 a1 a2=some r) :
  Calls Try.prog 57 #[.int .i64 a0,.int .i64 a1,.int .i64 a2] w fun e w'=>e=.returned (.bool r)∧Drawn0 w w':=by
 have H:(if a0 ≥ a1 then (some (decide (a0≤a2))) else (some false))=some r:=h
 clear h
 by_cases c4:a0 ≥ a1
 ·rw [if_pos c4] at H
  have c4b0:decide (a1≤a0)=true:=decide_eq_true c4
  clear c4
  obtain rfl:=Option.some.inj H
  go_enter Try.func57,Try.ntmps57
  go_wp2
  go_ret
  exact ⟨by first|rfl|(simp;done)|(simp [*];done),by repeat (first|exact Drawn0.refl _|apply Drawn0.step)⟩
 ·rw [if_neg c4] at H
  have c4b0:decide (a1≤a0)=false:=decide_eq_false c4
  clear c4
  obtain rfl:=Option.some.inj H
  go_enter Try.func57,Try.ntmps57
  go_wp2
  go_ret
  exact ⟨by first|rfl|(simp;done)|(simp [*];done),by repeat (first|exact Drawn0.refl _|apply Drawn0.step)⟩

end Go.Proofs.Ytgheopbdmijlkaa.P

namespace Go.Proofs.Ytgheopbdmijlkaa.P
open Go.RowKit Go.Proofs.YtgheopbdmijlkaaW.PrintWords Go.Proofs.YtgheopbdmijlkaaW.PrintLast Go.Proofs.YtgheopbdmijlkaaW.PrintMore
attribute [local go_sem] max2_int min2_int max_two min_two max_three min_three max_four min_four   -- for this text's walks alone
set_option linter.unusedVariables false
set_option linter.unusedSimpArgs false

/-! ### spec_l6mStep: function 73 -/
def spec_l6mStep.l0:Nat→Int→Int→Int→List Int→Int→Int→Option (Int)
 | 0,_,_,_,_,_,_=>none
 | k+1,x1,x5,x6,x399000,x399001,x399002=>if x6<(x399000.length:Int) then (if 0≤x6 then (if (Go.bits .and .i64 (shr .i64 x1 x6) 1)=1 then (spec_l6mStep.l0 k x1 (Go.bits .or .i64 x5 (rd x399000 x6)) (wrap64 (x6+1)) x399000 x399001 x399002) else (spec_l6mStep.l0 k x1 x5 (wrap64 (x6+1)) x399000 x399001 x399002)) else (none)) else (some x5)
def spec_l6mStep.f (k:Nat) (l0_0:List Int) (a0_1:Int) (a0_2:Int) (a1:Int):Option (Int):=spec_l6mStep.l0 k a1 0 0 l0_0 a0_1 a0_2
theorem spec_l6mStep.mono_l:∀ k,(∀ y0 y1 y2 y3 y4 y5,LeO (spec_l6mStep.l0 k y0 y1 y2 y3 y4 y5) (spec_l6mStep.l0 (k+1) y0 y1 y2 y3 y4 y5))
 | 0=>fun _ _ _ _ _ _ r h=>by simp [spec_l6mStep.l0] at h
 | k+1=>by
  have ih0:=spec_l6mStep.mono_l k
  ·intro y0 y1 y2 y3 y4 y5
   unfold spec_l6mStep.l0
   repeat' first
   | (with_reducible exact ih0 _ _ _ _ _ _)
   | (with_reducible exact LeO.refl _)
   | (with_reducible exact LeO.none _)
   | (with_reducible refine LeO.ite ?_ ?_)
   | (with_reducible refine LeO.bind ?_ (fun _=>?_))
   | exact ih0 _ _ _ _ _ _
   | exact LeO.none _
   | refine LeO.ite ?_ ?_
   | refine LeO.bind ?_ (fun _=>?_)
theorem spec_l6mStep.mono:∀ a0 a1 a2 a3 k,LeO (spec_l6mStep.f k a0 a1 a2 a3) (spec_l6mStep.f (k+1) a0 a1 a2 a3):=by
 intro a0 a1 a2 a3 k
 have ih0:=spec_l6mStep.mono_l k
 unfold spec_l6mStep.f
 repeat' first
   | (with_reducible exact ih0 _ _ _ _ _ _)
   | (with_reducible exact LeO.refl _)
   | (with_reducible exact LeO.none _)
   | (with_reducible refine LeO.ite ?_ ?_)
   | (with_reducible refine LeO.bind ?_ (fun _=>?_))
   | exact ih0 _ _ _ _ _ _
   | exact LeO.none _
   | refine LeO.ite ?_ ?_
   | refine LeO.bind ?_ (fun _=>?_)
set_option maxHeartbeats 8000000 in
set_option maxRecDepth 100000 in
theorem spec_l6mStep.calls (k:Nat) (A0_0:Option Addr) (c0_0:Nat) (l0_0:List Int) (a0_1:Int) (a0_2:Int) (a1:Int) (r:Int) (w:World) (hr0_0:Kd.C (Kd.int .i64) w A0_0 l0_0.length l0_0) (hc0_0:l0_0.length≤c0_0) (h:spec_l6mStep.f k l0_0 a0_1 a0_2 a1=some r) :
  Calls Try.prog 73 #[.agg #[.slice A0_0 l0_0.length c0_0,.int .i64 a0_1,.int .i64 a0_2],.int .i64 a1] w fun e w'=>e=.returned (.int .i64 r)∧Below w.heap.size w w':=by
 have hu31:=Try.underlying31
 have HR0_0:=Aside0.mk hr0_0
 have HC0_0:=Aside0.mk hc0_0
 clear hr0_0 hc0_0
 have HB:=Aside0.mk (Below.refl w.heap.size w)
 have H:(spec_l6mStep.l0 k a1 0 0 l0_0 a0_1 a0_2)=some r:=h
 clear h
 have H':=Aside0.mk H
 clear H
 go_enter Try.func73,Try.ntmps73
 go_wp2_with (first|((with_reducible refine gate_dst (N:=2) rfl ?_);refine box_event ?hg (N:=2) ?hd (cs:=#[.slice A0_0 l0_0.length c0_0,.int .i64 a0_1,.int .i64 a0_2]) (t:=31) ?hr ?_;(case hd=>rfl);(case hg=>rfl);(case hr=>first|(go_simp;done)|(go_simp;rfl));intro gb398 hg w3 hbox hb;have n0_:=Aside0.mk (yP (by repeat (first|(with_reducible first|exact HB.out|apply yA|apply yB|apply yC)|exact HB.out)) hb);have n1_:=Aside0.mk (hbox);have n2_:=Aside0.mk ((by rw [hg];exact (yQ (by repeat (first|(with_reducible first|exact HB.out|apply yA|apply yB|apply yC)|exact HB.out))):w.heap.size≤gb398));have n3_:=Aside0.mk ((by rw [hg];exact (yQ (by repeat (first|(with_reducible first|exact HB.out|apply yA|apply yB|apply yC)|exact HB.out))):w.heap.size≤gb398));clear HB;have HB:=n0_;have BK398:=n1_;have GW398:=n2_;have GE398:=n3_;clear n0_ n1_ n2_ n3_;clear hb hbox hg))
 go_loopg [5,6] k (fun kq v5 v6 w'=>∃ (x5_1:Int) (x6_1:Int),v5=.int .i64 x5_1∧v6=.int .i64 x6_1∧Aside0 (spec_l6mStep.l0 kq a1 x5_1 x6_1 l0_0 a0_1 a0_2=some r)∧Aside0 (kq≤k)∧Aside0 (w'.heap[gb398]?=some (.cells #[(.slice A0_0 l0_0.length c0_0),.int .i64 a0_1,.int .i64 a0_2] 31 (0,0)))∧Aside0 (Below w.heap.size w w'))
 case atStart=>exact ⟨(0),(0),(by first|rfl|(simp;done)|(simp [*];done)|(simp [Int.tmod_eq_emod_of_nonneg];done)),(by first|rfl|(simp;done)|(simp [*];done)|(simp [Int.tmod_eq_emod_of_nonneg];done)),H',⟨Nat.le_refl _⟩,⟨by (with_reducible repeat (first|refine yE ?_ _|refine yF ?_|refine yG ?_ _));exact BK398.out⟩,⟨by repeat (first|(with_reducible first|exact HB.out|apply yA|apply yB|apply yC|refine yD ?_ GE398.out)|exact HB.out)⟩⟩
 case round =>
  clear H'
  try clear p2
  obtain ⟨x5_1,x6_1,rfl,rfl,HA,HK1,BK398,HB⟩:=hrel
  cases gk with
  | zero=>exact absurd HA.out (by simp [spec_l6mStep.l0])
  | succ k1 =>
   have H:=HA.out
   clear HA
   simp only [spec_l6mStep.l0] at H
   by_cases c4:x6_1<(l0_0.length:Int)
   ·rw [if_pos c4] at H
    have c4b0:decide (x6_1<(l0_0.length:Int))=true:=decide_eq_true c4
    clear c4
    by_cases c5:0≤x6_1
    ·rw [if_pos c5] at H
     have c5b0:=eq_true c5
     have c5b1:decide (0≤x6_1)=true:=decide_eq_true c5
     clear c5
     obtain ⟨ji6,hji6⟩:∃ j_:Int,(shr .i64 a1 x6_1)=j_:=⟨_,rfl⟩
     replace H:(if (Go.bits .and .i64 (ji6) 1)=1 then (spec_l6mStep.l0 k1 a1 (Go.bits .or .i64 x5_1 (rd l0_0 x6_1)) (wrap64 (x6_1+1)) l0_0 a0_1 a0_2) else (spec_l6mStep.l0 k1 a1 x5_1 (wrap64 (x6_1+1)) l0_0 a0_1 a0_2))=some r:=by first|(rw [hji6] at H;exact H)|(simp only [hji6] at H ⊢;exact H)
     have hji6_:(a1 / 2 ^ min x6_1.toNat 64)=ji6:=hji6
     have hji6z:x6_1≤64→(a1 / 2 ^ x6_1.toNat)=ji6:=shr_small hji6
     by_cases c7:(Go.bits .and .i64 (ji6) 1)=1
     ·rw [if_pos c7] at H
      have c7b0:((Go.bits .and .i64 (ji6) 1) == 1)=true:=beq_iff_eq.mpr c7
      have c7b1:((Go.bits .and .i64 (ji6) 1) != 1)=false:=bne_eq_false_iff_eq.mpr c7
      clear c7
      have H':=Aside0.mk H
      clear H
      have hcz8_0:wr.cell? ⟨gb398,0,none⟩=some (.slice A0_0 l0_0.length c0_0):=(blk_cell BK398.out 0).trans rfl
      have hcz8_1:wr.cell? ⟨gb398,1,none⟩=some (.int .i64 a0_1):=(blk_cell BK398.out 1).trans rfl
      have hcz8_2:wr.cell? ⟨gb398,2,none⟩=some (.int .i64 a0_2):=(blk_cell BK398.out 2).trans rfl
      have hfz8_0:=blk_frozen BK398.out 0
      have hfz8_1:=blk_frozen BK398.out 1
      have hfz8_2:=blk_frozen BK398.out 2
      have p399:0≤(x6_1:Int):=of_decide_eq_true (by first|(with_reducible assumption)|assumption)
      have q399:x6_1<(l0_0.length:Int):=of_decide_eq_true (by first|(with_reducible assumption)|assumption)
      obtain ⟨ad399,e399,hx399_0⟩:=Kd.at_int HR0_0.out x6_1 p399 q399
      cases e399
      replace hx399_0:=(HB.out.cell (World.block_lt_of_cell? w _ hx399_0)).trans hx399_0
      replace p399:=eq_true p399
      replace q399:=eq_true q399
      go_wp2
      go_roundg k1
      case measure=>have:=HK1.out;omega
      case rel=>exact ⟨(Go.bits .or .i64 x5_1 (rd l0_0 x6_1)),(wrap64 (x6_1+1)),(by first|rfl|(simp;done)|(simp [*];done)|(simp [Int.tmod_eq_emod_of_nonneg];done)),(by first|rfl|(simp;done)|(simp [*];done)|(simp [Int.tmod_eq_emod_of_nonneg];done)),H',⟨by have:=HK1.out;omega⟩,⟨by (with_reducible repeat (first|refine yE ?_ _|refine yF ?_|refine yG ?_ _));exact BK398.out⟩,⟨by repeat (first|(with_reducible first|exact HB.out|apply yA|apply yB|apply yC|refine yD ?_ GE398.out)|exact HB.out)⟩⟩
     ·rw [if_neg c7] at H
      have c7b0:((Go.bits .and .i64 (ji6) 1) == 1)=false:=beq_eq_false_iff_ne.mpr c7
      have c7b1:((Go.bits .and .i64 (ji6) 1) != 1)=true:=bne_iff_ne.mpr c7
      have H':=Aside0.mk H
      clear H
      have hcz9_0:wr.cell? ⟨gb398,0,none⟩=some (.slice A0_0 l0_0.length c0_0):=(blk_cell BK398.out 0).trans rfl
      have hcz9_1:wr.cell? ⟨gb398,1,none⟩=some (.int .i64 a0_1):=(blk_cell BK398.out 1).trans rfl
      have hcz9_2:wr.cell? ⟨gb398,2,none⟩=some (.int .i64 a0_2):=(blk_cell BK398.out 2).trans rfl
      have hfz9_0:=blk_frozen BK398.out 0
      have hfz9_1:=blk_frozen BK398.out 1
      have hfz9_2:=blk_frozen BK398.out 2
      go_wp2
      go_roundg k1
      case measure=>have:=HK1.out;omega
      case rel=>exact ⟨(x5_1),(wrap64 (x6_1+1)),(by first|rfl|(simp;done)|(simp [*];done)|(simp [Int.tmod_eq_emod_of_nonneg];done)),(by first|rfl|(simp;done)|(simp [*];done)|(simp [Int.tmod_eq_emod_of_nonneg];done)),H',⟨by have:=HK1.out;omega⟩,⟨by (with_reducible repeat (first|refine yE ?_ _|refine yF ?_|refine yG ?_ _));exact BK398.out⟩,⟨by repeat (first|(with_reducible first|exact HB.out|apply yA|apply yB|apply yC|refine yD ?_ GE398.out)|exact HB.out)⟩⟩
    ·rw [if_neg c5] at H
     exact absurd H (by simp)
   ·rw [if_neg c4] at H
    have c4b0:decide (x6_1<(l0_0.length:Int))=false:=decide_eq_false c4
    clear c4
    obtain rfl:=Option.some.inj H
    have hcz10_0:wr.cell? ⟨gb398,0,none⟩=some (.slice A0_0 l0_0.length c0_0):=(blk_cell BK398.out 0).trans rfl
    have hcz10_1:wr.cell? ⟨gb398,1,none⟩=some (.int .i64 a0_1):=(blk_cell BK398.out 1).trans rfl
    have hcz10_2:wr.cell? ⟨gb398,2,none⟩=some (.int .i64 a0_2):=(blk_cell BK398.out 2).trans rfl
    have hfz10_0:=blk_frozen BK398.out 0
    have hfz10_1:=blk_frozen BK398.out 1
    have hfz10_2:=blk_frozen BK398.out 2
    go_wp2
    go_ret
    exact ⟨by first|rfl|(simp [errW_none,errW_some]<;>rfl)|(simp [*,errW_none,errW_some]<;>rfl)|(simp [errW_none,errW_some];exact ⟨rfl,rfl⟩),by repeat (first|(with_reducible first|exact HB.out|apply yA|apply yB|apply yC|refine yD ?_ GE398.out)|exact HB.out)⟩

end Go.Proofs.Ytgheopbdmijlkaa.P

namespace Go.Proofs.Ytgheopbdmijlkaa.P
open Go.RowKit Go.Proofs.YtgheopbdmijlkaaW.PrintWords Go.Proofs.YtgheopbdmijlkaaW.PrintLast Go.Proofs.YtgheopbdmijlkaaW.PrintMore
attribute [local go_sem] max2_int min2_int max_two min_two max_three min_three max_four min_four   -- for this text's walks alone
set_option linter.unusedVariables false
set_option linter.unusedSimpArgs false

/-! ### spec_l6mShape: function 58 -/
def spec_l6mShape.l0:Nat→List Int→List Int→Int→List Int→Int→Int→Option (List Int × Int)
 | 0,_,_,_,_,_,_=>none
 | k+1,x4,x5,x6,x401000,x401001,x401002=>if 0≤x6 then (if x6<(x5.length:Int) then (if (rd x5 x6)=0 then (if x4.length<17592186044416 then ((some (x4++[x6]:List Int)).bind fun y408=>((spec_l6mStep.f k x401000 x401001 x401002 x6).bind fun t412=>(spec_l6mShape.l0 k y408 (x5.set (x6:Int).toNat (y408.length:Int)) t412 x401000 x401001 x401002))) else (none)) else (some (x4,wrap64 ((rd x5 x6) - 1)))) else (none)) else (none)
def spec_l6mShape.f (k:Nat) (l0_0:List Int) (a0_1:Int) (a0_2:Int):Option (List Int × Int):=if 0≤(shl .i64 1 (l0_0.length:Int)) then (if (shl .i64 1 (l0_0.length:Int):Int).toNat≤35184372088832 then (spec_l6mShape.l0 k (([]:List Int)) (List.replicate (shl .i64 1 (l0_0.length:Int):Int).toNat 0) a0_1 l0_0 a0_1 a0_2) else (none)) else (none)
theorem spec_l6mShape.mono_l:∀ k,(∀ y0 y1 y2 y3 y4 y5,LeO (spec_l6mShape.l0 k y0 y1 y2 y3 y4 y5) (spec_l6mShape.l0 (k+1) y0 y1 y2 y3 y4 y5))
 | 0=>fun _ _ _ _ _ _ r h=>by simp [spec_l6mShape.l0] at h
 | k+1=>by
  have ih0:=spec_l6mShape.mono_l k
  ·intro y0 y1 y2 y3 y4 y5
   unfold spec_l6mShape.l0
   repeat' first
   | (with_reducible exact ih0 _ _ _ _ _ _)
   | (with_reducible exact spec_l6mStep.mono _ _ _ _ _)
   | (with_reducible exact LeO.refl _)
   | (with_reducible exact LeO.none _)
   | (with_reducible refine LeO.ite ?_ ?_)
   | (with_reducible refine LeO.bind ?_ (fun _=>?_))
   | exact ih0 _ _ _ _ _ _
   | exact spec_l6mStep.mono _ _ _ _ _
   | exact LeO.none _
   | refine LeO.ite ?_ ?_
   | refine LeO.bind ?_ (fun _=>?_)
theorem spec_l6mShape.mono:∀ a0 a1 a2 k,LeO (spec_l6mShape.f k a0 a1 a2) (spec_l6mShape.f (k+1) a0 a1 a2):=by
 intro a0 a1 a2 k
 have ih0:=spec_l6mShape.mono_l k
 unfold spec_l6mShape.f
 repeat' first
   | (with_reducible exact ih0 _ _ _ _ _ _)
   | (with_reducible exact spec_l6mStep.mono _ _ _ _ _)
   | (with_reducible exact LeO.refl _)
   | (with_reducible exact LeO.none _)
   | (with_reducible refine LeO.ite ?_ ?_)
   | (with_reducible refine LeO.bind ?_ (fun _=>?_))
   | exact ih0 _ _ _ _ _ _
   | exact spec_l6mStep.mono _ _ _ _ _
   | exact LeO.none _
   | refine LeO.ite ?_ ?_
   | refine LeO.bind ?_ (fun _=>?_)
set_option maxHeartbeats 8000000 in
set_option maxRecDepth 100000 in
theorem spec_l6mShape.calls (k:Nat) (A0_0:Option Addr) (c0_0:Nat) (l0_0:List Int) (a0_1:Int) (a0_2:Int) (r1:List Int) (r2:Int) (w:World) (hr0_0:Kd.C (Kd.int .i64) w A0_0 l0_0.length l0_0) (hc0_0:l0_0.length≤c0_0) (h:spec_l6mShape.f k l0_0 a0_1 a0_2=some (r1,r2)) :
  Calls Try.prog 58 #[.agg #[.slice A0_0 l0_0.length c0_0,.int .i64 a0_1,.int .i64 a0_2]] w fun e w'=>∃ v0_:Value,e=.returned (.tuple #[v0_,.int .i64 r2])∧Kd.R (Kd.int .i64) 3 w' w.heap.size (fun _=>True) v0_ r1∧Below w.heap.size w w':=by
 have hu31:=Try.underlying31
 have HR0_0:=Aside0.mk hr0_0
 have HC0_0:=Aside0.mk hc0_0
 clear hr0_0 hc0_0
 have HB:=Aside0.mk (Below.refl w.heap.size w)
 have H:(if 0≤(shl .i64 1 (l0_0.length:Int)) then (if (shl .i64 1 (l0_0.length:Int):Int).toNat≤35184372088832 then (spec_l6mShape.l0 k (([]:List Int)) (List.replicate (shl .i64 1 (l0_0.length:Int):Int).toNat 0) a0_1 l0_0 a0_1 a0_2) else (none)) else (none))=some (r1,r2):=h
 clear h
 obtain ⟨y401,hy401⟩:∃ y_:List Int,y_=(([]:List Int)):=⟨_,rfl⟩
 replace H:(if 0≤(shl .i64 1 (l0_0.length:Int)) then (if (shl .i64 1 (l0_0.length:Int):Int).toNat≤35184372088832 then (spec_l6mShape.l0 k y401 (List.replicate (shl .i64 1 (l0_0.length:Int):Int).toNat 0) a0_1 l0_0 a0_1 a0_2) else (none)) else (none))=some (r1,r2):=by first|(rw [hy401];with_reducible exact H)|(have H2_:=(Option.bind_some _ _).symm.trans H;rw [hy401];with_reducible exact H2_)|(have H2_:=(Option.bind_some _ _).symm.trans H;with_reducible exact H2_)|with_reducible exact H|(rw [hy401];exact H)|exact H
 have Ny401:=Aside0.mk hy401
 clear hy401
 obtain ⟨ji2,hji2⟩:∃ j_:Int,(shl .i64 1 (l0_0.length:Int))=j_:=⟨_,rfl⟩
 replace H:(if 0≤(ji2) then (if (ji2:Int).toNat≤35184372088832 then (spec_l6mShape.l0 k y401 (List.replicate (ji2:Int).toNat 0) a0_1 l0_0 a0_1 a0_2) else (none)) else (none))=some (r1,r2):=by first|(rw [hji2] at H;exact H)|(simp only [hji2] at H ⊢;exact H)
 have hji2_:(IntKind.i64.wrap (1 * 2 ^ min (l0_0.length:Int).toNat 64))=ji2:=hji2
 have hji2z:(l0_0.length:Int)≤64→(IntKind.i64.wrap (1 * 2 ^ (l0_0.length:Int).toNat))=ji2:=shl_small hji2
 have hji2p:(IntKind.i64.wrap (1 * 2 ^ min l0_0.length 64))=ji2:=hji2_
 have hji2q:(l0_0.length:Int)≤64→(IntKind.i64.wrap (1 * 2 ^ l0_0.length))=ji2:=hji2z
 have hji2r:(IntKind.i64.wrap (2 ^ min l0_0.length 64))=ji2:=by have h_:=hji2p;rw [Int.one_mul] at h_;exact h_
 have hji2s:(l0_0.length:Int)≤64→(IntKind.i64.wrap (2 ^ l0_0.length))=ji2:=fun hle_=>by have h_:=hji2q hle_;rw [Int.one_mul] at h_;exact h_
 have hji2u:(IntKind.i64.wrap (2 ^ min (l0_0.length:Int).toNat 64))=ji2:=by have h_:=hji2_;rw [Int.one_mul] at h_;exact h_
 have hji2v:(l0_0.length:Int)≤64→(IntKind.i64.wrap (2 ^ (l0_0.length:Int).toNat))=ji2:=fun hle_=>by have h_:=hji2z hle_;rw [Int.one_mul] at h_;exact h_
 have hji2y:(wrap64 (1 * 2 ^ min (l0_0.length:Int).toNat 64))=ji2:=(i64_w _).symm.trans hji2_
 have hji2x:(l0_0.length:Int)≤64→(wrap64 (1 * 2 ^ (l0_0.length:Int).toNat))=ji2:=fun h_=>(i64_w _).symm.trans (hji2z h_)
 by_cases c3:0≤(ji2)
 ·rw [if_pos c3] at H
  have c3b0:=eq_true c3
  have c3b1:decide (0≤(ji2))=true:=decide_eq_true c3
  clear c3
  by_cases c4:(ji2:Int).toNat≤35184372088832
  ·rw [if_pos c4] at H
   have c4b0:=eq_true c4
   have c4b1:decide ((ji2:Int).toNat≤35184372088832)=true:=decide_eq_true c4
   clear c4
   obtain ⟨y404,hy404⟩:∃ y_:List Int,y_=(List.replicate (ji2:Int).toNat 0):=⟨_,rfl⟩
   replace H:(spec_l6mShape.l0 k y401 y404 a0_1 l0_0 a0_1 a0_2)=some (r1,r2):=by first|(rw [hy404];with_reducible exact H)|(have H2_:=(Option.bind_some _ _).symm.trans H;rw [hy404];with_reducible exact H2_)|(have H2_:=(Option.bind_some _ _).symm.trans H;with_reducible exact H2_)|with_reducible exact H|(rw [hy404];exact H)|exact H
   have Ny404:=Aside0.mk hy404
   clear hy404
   have H':=Aside0.mk H
   clear H
   go_enter Try.func58,Try.ntmps58
   go_wp2_with (first|((with_reducible refine gate_dst (N:=1) rfl ?_);refine box_event ?hg (N:=1) ?hd (cs:=#[.slice A0_0 l0_0.length c0_0,.int .i64 a0_1,.int .i64 a0_2]) (t:=31) ?hr ?_;(case hd=>rfl);(case hg=>rfl);(case hr=>first|(go_simp;done)|(go_simp;rfl));intro gb400 hg w5 hbox hb;have n0_:=Aside0.mk (yP (by repeat (first|(with_reducible first|exact HB.out|apply yA|apply yB|apply yC)|exact HB.out)) hb);have n1_:=Aside0.mk (hbox);have n2_:=Aside0.mk ((by rw [hg];exact (yQ (by repeat (first|(with_reducible first|exact HB.out|apply yA|apply yB|apply yC)|exact HB.out))):w.heap.size≤gb400));have n3_:=Aside0.mk ((by rw [hg];exact (yQ (by repeat (first|(with_reducible first|exact HB.out|apply yA|apply yB|apply yC)|exact HB.out))):w.heap.size≤gb400));clear HB;have HB:=n0_;have BK400:=n1_;have GW400:=n2_;have GE400:=n3_;clear n0_ n1_ n2_ n3_;clear hb hbox hg)|((with_reducible refine gate_dst (N:=7) rfl ?_);refine Kd.R_lit (Kd.int .i64) _ 3 ?hg (N:=7) ?hd (xs:=([]:List Int)) (inner:=[]) (ok:=fun _=>True) (okp:=fun _=>True) ?hr ?hp (fun _ hk=>hk) trivial (Below.refl _ _) (Nat.le_refl _) (by simp) ?_;(case hd=>rfl);(case hg=>rfl);(case hr=>first|(go_simp;done)|(go_simp;rfl));(case hp=>exact (Reps.none _ _));intro v402 w6 ho7 hb hg_ hnew_;clear hg_ hnew_;(first|rw [← Ny401.out] at ho7|(simp only [Int.reduceToNat] at ho7;rw [← Ny401.out] at ho7));have n0_:=Aside0.mk (Kd.R_lower ho7 (yQ (by repeat (first|(with_reducible first|exact HB.out|apply yA|apply yB|apply yC|refine yD ?_ GE400.out)|exact HB.out))));have n1_:=Aside0.mk (blk_below (g:=gb400) (o:=.cells #[.slice A0_0 l0_0.length c0_0,.int .i64 a0_1,.int .i64 a0_2] 31 (0,0)) (by (with_reducible repeat (first|refine yE ?_ _|refine yF ?_|refine yG ?_ _));exact BK400.out) hb);have n2_:=Aside0.mk (yP (by repeat (first|(with_reducible first|exact HB.out|apply yA|apply yB|apply yC|refine yD ?_ GE400.out)|exact HB.out)) hb);clear BK400;clear HB;have HO403:=n0_;have BK400:=n1_;have HB:=n2_;clear n0_ n1_ n2_;clear hb ho7;have hcz8_0:w6.cell? ⟨gb400,0,none⟩=some (.slice A0_0 l0_0.length c0_0):=(blk_cell BK400.out 0).trans rfl;have hcz8_1:w6.cell? ⟨gb400,1,none⟩=some (.int .i64 a0_1):=(blk_cell BK400.out 1).trans rfl;have hcz8_2:w6.cell? ⟨gb400,2,none⟩=some (.int .i64 a0_2):=(blk_cell BK400.out 2).trans rfl;have hfz8_0:=blk_frozen BK400.out 0;have hfz8_1:=blk_frozen BK400.out 1;have hfz8_2:=blk_frozen BK400.out 2)|((with_reducible refine gate_dst (N:=12) rfl ?_);refine Kd.R_make (Kd.int .i64) _ 3 rfl (N:=12) rfl 25 _ _ rfl ji2 rfl rfl Try.underlying25 (.int .i64 0) 8 info3 rfl (by decide) (by omega) 0 (ok:=fun _=>True) (okp:=fun _=>True) rfl (fun _ hk=>hk) trivial (of_decide_eq_true (by first|(with_reducible assumption)|assumption)) (Nat.le_trans (Nat.mul_le_mul_right _ (of_decide_eq_true (by first|(with_reducible assumption)|assumption):ji2.toNat≤35184372088832)) (by omega)) (Below.refl _ _) (Nat.le_refl _) ?_;intro v405 w9 ho10 hb hg_ hnew_;clear hg_ hnew_;(first|rw [← Ny404.out] at ho10|(simp only [Int.reduceToNat] at ho10;rw [← Ny404.out] at ho10));have n0_:=Aside0.mk (Kd.R_elder' (by (with_reducible repeat (first|apply yH|apply yI|apply yJ));exact HO403.out) (Kd.R_base ho10) hb);have n1_:=Aside0.mk (Kd.R_lower (Kd.R_new' ho10 (Kd.R_lt (by (with_reducible repeat (first|apply yH|apply yI|apply yJ));exact HO403.out))) (yQ (by repeat (first|(with_reducible first|exact HB.out|apply yA|apply yB|apply yC|refine yD ?_ GE400.out)|exact HB.out))));have n2_:=Aside0.mk (blk_below (g:=gb400) (o:=.cells #[.slice A0_0 l0_0.length c0_0,.int .i64 a0_1,.int .i64 a0_2] 31 (0,0)) (by (with_reducible repeat (first|refine yE ?_ _|refine yF ?_|refine yG ?_ _));exact BK400.out) hb);have n3_:=Aside0.mk (yP (by repeat (first|(with_reducible first|exact HB.out|apply yA|apply yB|apply yC|refine yD ?_ GE400.out)|exact HB.out)) hb);clear HO403;clear BK400;clear HB;have HO403:=n0_;have HO406:=n1_;have BK400:=n2_;have HB:=n3_;clear n0_ n1_ n2_ n3_;clear hb ho10;have hcz11_0:w9.cell? ⟨gb400,0,none⟩=some (.slice A0_0 l0_0.length c0_0):=(blk_cell BK400.out 0).trans rfl;have hcz11_1:w9.cell? ⟨gb400,1,none⟩=some (.int .i64 a0_1):=(blk_cell BK400.out 1).trans rfl;have hcz11_2:w9.cell? ⟨gb400,2,none⟩=some (.int .i64 a0_2):=(blk_cell BK400.out 2).trans rfl;have hfz11_0:=blk_frozen BK400.out 0;have hfz11_1:=blk_frozen BK400.out 1;have hfz11_2:=blk_frozen BK400.out 2))
   repeat (go_quiet (first|((with_reducible refine gate_dst (N:=1) rfl ?_);refine box_event ?hg (N:=1) ?hd (cs:=#[.slice A0_0 l0_0.length c0_0,.int .i64 a0_1,.int .i64 a0_2]) (t:=31) ?hr ?_;(case hd=>rfl);(case hg=>rfl);(case hr=>first|(go_simp;done)|(go_simp;rfl));intro gb400 hg w5 hbox hb;have n0_:=Aside0.mk (yP (by repeat (first|(with_reducible first|exact HB.out|apply yA|apply yB|apply yC)|exact HB.out)) hb);have n1_:=Aside0.mk (hbox);have n2_:=Aside0.mk ((by rw [hg];exact (yQ (by repeat (first|(with_reducible first|exact HB.out|apply yA|apply yB|apply yC)|exact HB.out))):w.heap.size≤gb400));have n3_:=Aside0.mk ((by rw [hg];exact (yQ (by repeat (first|(with_reducible first|exact HB.out|apply yA|apply yB|apply yC)|exact HB.out))):w.heap.size≤gb400));clear HB;have HB:=n0_;have BK400:=n1_;have GW400:=n2_;have GE400:=n3_;clear n0_ n1_ n2_ n3_;clear hb hbox hg)|((with_reducible refine gate_dst (N:=7) rfl ?_);refine Kd.R_lit (Kd.int .i64) _ 3 ?hg (N:=7) ?hd (xs:=([]:List Int)) (inner:=[]) (ok:=fun _=>True) (okp:=fun _=>True) ?hr ?hp (fun _ hk=>hk) trivial (Below.refl _ _) (Nat.le_refl _) (by simp) ?_;(case hd=>rfl);(case hg=>rfl);(case hr=>first|(go_simp;done)|(go_simp;rfl));(case hp=>exact (Reps.none _ _));intro v402 w6 ho7 hb hg_ hnew_;clear hg_ hnew_;(first|rw [← Ny401.out] at ho7|(simp only [Int.reduceToNat] at ho7;rw [← Ny401.out] at ho7));have n0_:=Aside0.mk (Kd.R_lower ho7 (yQ (by repeat (first|(with_reducible first|exact HB.out|apply yA|apply yB|apply yC|refine yD ?_ GE400.out)|exact HB.out))));have n1_:=Aside0.mk (blk_below (g:=gb400) (o:=.cells #[.slice A0_0 l0_0.length c0_0,.int .i64 a0_1,.int .i64 a0_2] 31 (0,0)) (by (with_reducible repeat (first|refine yE ?_ _|refine yF ?_|refine yG ?_ _));exact BK400.out) hb);have n2_:=Aside0.mk (yP (by repeat (first|(with_reducible first|exact HB.out|apply yA|apply yB|apply yC|refine yD ?_ GE400.out)|exact HB.out)) hb);clear BK400;clear HB;have HO403:=n0_;have BK400:=n1_;have HB:=n2_;clear n0_ n1_ n2_;clear hb ho7;have hcz8_0:w6.cell? ⟨gb400,0,none⟩=some (.slice A0_0 l0_0.length c0_0):=(blk_cell BK400.out 0).trans rfl;have hcz8_1:w6.cell? ⟨gb400,1,none⟩=some (.int .i64 a0_1):=(blk_cell BK400.out 1).trans rfl;have hcz8_2:w6.cell? ⟨gb400,2,none⟩=some (.int .i64 a0_2):=(blk_cell BK400.out 2).trans rfl;have hfz8_0:=blk_frozen BK400.out 0;have hfz8_1:=blk_frozen BK400.out 1;have hfz8_2:=blk_frozen BK400.out 2)|((with_reducible refine gate_dst (N:=12) rfl ?_);refine Kd.R_make (Kd.int .i64) _ 3 rfl (N:=12) rfl 25 _ _ rfl ji2 rfl rfl Try.underlying25 (.int .i64 0) 8 info3 rfl (by decide) (by omega) 0 (ok:=fun _=>True) (okp:=fun _=>True) rfl (fun _ hk=>hk) trivial (of_decide_eq_true (by first|(with_reducible assumption)|assumption)) (Nat.le_trans (Nat.mul_le_mul_right _ (of_decide_eq_true (by first|(with_reducible assumption)|assumption):ji2.toNat≤35184372088832)) (by omega)) (Below.refl _ _) (Nat.le_refl _) ?_;intro v405 w9 ho10 hb hg_ hnew_;clear hg_ hnew_;(first|rw [← Ny404.out] at ho10|(simp only [Int.reduceToNat] at ho10;rw [← Ny404.out] at ho10));have n0_:=Aside0.mk (Kd.R_elder' (by (with_reducible repeat (first|apply yH|apply yI|apply yJ));exact HO403.out) (Kd.R_base ho10) hb);have n1_:=Aside0.mk (Kd.R_lower (Kd.R_new' ho10 (Kd.R_lt (by (with_reducible repeat (first|apply yH|apply yI|apply yJ));exact HO403.out))) (yQ (by repeat (first|(with_reducible first|exact HB.out|apply yA|apply yB|apply yC|refine yD ?_ GE400.out)|exact HB.out))));have n2_:=Aside0.mk (blk_below (g:=gb400) (o:=.cells #[.slice A0_0 l0_0.length c0_0,.int .i64 a0_1,.int .i64 a0_2] 31 (0,0)) (by (with_reducible repeat (first|refine yE ?_ _|refine yF ?_|refine yG ?_ _));exact BK400.out) hb);have n3_:=Aside0.mk (yP (by repeat (first|(with_reducible first|exact HB.out|apply yA|apply yB|apply yC|refine yD ?_ GE400.out)|exact HB.out)) hb);clear HO403;clear BK400;clear HB;have HO403:=n0_;have HO406:=n1_;have BK400:=n2_;have HB:=n3_;clear n0_ n1_ n2_ n3_;clear hb ho10;have hcz11_0:w9.cell? ⟨gb400,0,none⟩=some (.slice A0_0 l0_0.length c0_0):=(blk_cell BK400.out 0).trans rfl;have hcz11_1:w9.cell? ⟨gb400,1,none⟩=some (.int .i64 a0_1):=(blk_cell BK400.out 1).trans rfl;have hcz11_2:w9.cell? ⟨gb400,2,none⟩=some (.int .i64 a0_2):=(blk_cell BK400.out 2).trans rfl;have hfz11_0:=blk_frozen BK400.out 0;have hfz11_1:=blk_frozen BK400.out 1;have hfz11_2:=blk_frozen BK400.out 2));try go_wp2_with (first|((with_reducible refine gate_dst (N:=1) rfl ?_);refine box_event ?hg (N:=1) ?hd (cs:=#[.slice A0_0 l0_0.length c0_0,.int .i64 a0_1,.int .i64 a0_2]) (t:=31) ?hr ?_;(case hd=>rfl);(case hg=>rfl);(case hr=>first|(go_simp;done)|(go_simp;rfl));intro gb400 hg w5 hbox hb;have n0_:=Aside0.mk (yP (by repeat (first|(with_reducible first|exact HB.out|apply yA|apply yB|apply yC)|exact HB.out)) hb);have n1_:=Aside0.mk (hbox);have n2_:=Aside0.mk ((by rw [hg];exact (yQ (by repeat (first|(with_reducible first|exact HB.out|apply yA|apply yB|apply yC)|exact HB.out))):w.heap.size≤gb400));have n3_:=Aside0.mk ((by rw [hg];exact (yQ (by repeat (first|(with_reducible first|exact HB.out|apply yA|apply yB|apply yC)|exact HB.out))):w.heap.size≤gb400));clear HB;have HB:=n0_;have BK400:=n1_;have GW400:=n2_;have GE400:=n3_;clear n0_ n1_ n2_ n3_;clear hb hbox hg)|((with_reducible refine gate_dst (N:=7) rfl ?_);refine Kd.R_lit (Kd.int .i64) _ 3 ?hg (N:=7) ?hd (xs:=([]:List Int)) (inner:=[]) (ok:=fun _=>True) (okp:=fun _=>True) ?hr ?hp (fun _ hk=>hk) trivial (Below.refl _ _) (Nat.le_refl _) (by simp) ?_;(case hd=>rfl);(case hg=>rfl);(case hr=>first|(go_simp;done)|(go_simp;rfl));(case hp=>exact (Reps.none _ _));intro v402 w6 ho7 hb hg_ hnew_;clear hg_ hnew_;(first|rw [← Ny401.out] at ho7|(simp only [Int.reduceToNat] at ho7;rw [← Ny401.out] at ho7));have n0_:=Aside0.mk (Kd.R_lower ho7 (yQ (by repeat (first|(with_reducible first|exact HB.out|apply yA|apply yB|apply yC|refine yD ?_ GE400.out)|exact HB.out))));have n1_:=Aside0.mk (blk_below (g:=gb400) (o:=.cells #[.slice A0_0 l0_0.length c0_0,.int .i64 a0_1,.int .i64 a0_2] 31 (0,0)) (by (with_reducible repeat (first|refine yE ?_ _|refine yF ?_|refine yG ?_ _));exact BK400.out) hb);have n2_:=Aside0.mk (yP (by repeat (first|(with_reducible first|exact HB.out|apply yA|apply yB|apply yC|refine yD ?_ GE400.out)|exact HB.out)) hb);clear BK400;clear HB;have HO403:=n0_;have BK400:=n1_;have HB:=n2_;clear n0_ n1_ n2_;clear hb ho7;have hcz8_0:w6.cell? ⟨gb400,0,none⟩=some (.slice A0_0 l0_0.length c0_0):=(blk_cell BK400.out 0).trans rfl;have hcz8_1:w6.cell? ⟨gb400,1,none⟩=some (.int .i64 a0_1):=(blk_cell BK400.out 1).trans rfl;have hcz8_2:w6.cell? ⟨gb400,2,none⟩=some (.int .i64 a0_2):=(blk_cell BK400.out 2).trans rfl;have hfz8_0:=blk_frozen BK400.out 0;have hfz8_1:=blk_frozen BK400.out 1;have hfz8_2:=blk_frozen BK400.out 2)|((with_reducible refine gate_dst (N:=12) rfl ?_);refine Kd.R_make (Kd.int .i64) _ 3 rfl (N:=12) rfl 25 _ _ rfl ji2 rfl rfl Try.underlying25 (.int .i64 0) 8 info3 rfl (by decide) (by omega) 0 (ok:=fun _=>True) (okp:=fun _=>True) rfl (fun _ hk=>hk) trivial (of_decide_eq_true (by first|(with_reducible assumption)|assumption)) (Nat.le_trans (Nat.mul_le_mul_right _ (of_decide_eq_true (by first|(with_reducible assumption)|assumption):ji2.toNat≤35184372088832)) (by omega)) (Below.refl _ _) (Nat.le_refl _) ?_;intro v405 w9 ho10 hb hg_ hnew_;clear hg_ hnew_;(first|rw [← Ny404.out] at ho10|(simp only [Int.reduceToNat] at ho10;rw [← Ny404.out] at ho10));have n0_:=Aside0.mk (Kd.R_elder' (by (with_reducible repeat (first|apply yH|apply yI|apply yJ));exact HO403.out) (Kd.R_base ho10) hb);have n1_:=Aside0.mk (Kd.R_lower (Kd.R_new' ho10 (Kd.R_lt (by (with_reducible repeat (first|apply yH|apply yI|apply yJ));exact HO403.out))) (yQ (by repeat (first|(with_reducible first|exact HB.out|apply yA|apply yB|apply yC|refine yD ?_ GE400.out)|exact HB.out))));have n2_:=Aside0.mk (blk_below (g:=gb400) (o:=.cells #[.slice A0_0 l0_0.length c0_0,.int .i64 a0_1,.int .i64 a0_2] 31 (0,0)) (by (with_reducible repeat (first|refine yE ?_ _|refine yF ?_|refine yG ?_ _));exact BK400.out) hb);have n3_:=Aside0.mk (yP (by repeat (first|(with_reducible first|exact HB.out|apply yA|apply yB|apply yC|refine yD ?_ GE400.out)|exact HB.out)) hb);clear HO403;clear BK400;clear HB;have HO403:=n0_;have HO406:=n1_;have BK400:=n2_;have HB:=n3_;clear n0_ n1_ n2_ n3_;clear hb ho10;have hcz11_0:w9.cell? ⟨gb400,0,none⟩=some (.slice A0_0 l0_0.length c0_0):=(blk_cell BK400.out 0).trans rfl;have hcz11_1:w9.cell? ⟨gb400,1,none⟩=some (.int .i64 a0_1):=(blk_cell BK400.out 1).trans rfl;have hcz11_2:w9.cell? ⟨gb400,2,none⟩=some (.int .i64 a0_2):=(blk_cell BK400.out 2).trans rfl;have hfz11_0:=blk_frozen BK400.out 0;have hfz11_1:=blk_frozen BK400.out 1;have hfz11_2:=blk_frozen BK400.out 2)))
   go_loopg [4,6] k (fun kq v4 v6 w'=>∃ (x4_1:List Int) (x5_1:List Int) (x6_1:Int),v6=.int .i64 x6_1∧Aside0 (spec_l6mShape.l0 kq x4_1 x5_1 x6_1 l0_0 a0_1 a0_2=some (r1,r2))∧Aside0 (kq≤k)∧Aside0 (Kd.R (Kd.int .i64) 3 w' w.heap.size (fun k_=>some k_≠(v405:Value).ownBlock) v4 x4_1)∧Aside0 (Kd.R (Kd.int .i64) 3 w' w.heap.size (fun k_=>some k_≠(v4:Value).ownBlock) v405 x5_1)∧Aside0 (w'.heap[gb400]?=some (.cells #[(.slice A0_0 l0_0.length c0_0),.int .i64 a0_1,.int .i64 a0_2] 31 (0,0)))∧Aside0 (Below w.heap.size w w'))
   case atStart=>exact ⟨(y401),(y404),(a0_1),(by first|rfl|(simp;done)|(simp [*];done)|(simp [Int.tmod_eq_emod_of_nonneg];done)),H',⟨Nat.le_refl _⟩,⟨by (with_reducible repeat (first|apply yH|apply yI|apply yJ));exact Kd.R_mono HO403.out (fun _ hk=>hk.2)⟩,⟨by (with_reducible repeat (first|apply yH|apply yI|apply yJ));exact Kd.R_mono HO406.out (fun _ hk=>hk.2)⟩,⟨by (with_reducible repeat (first|refine yE ?_ _|refine yF ?_|refine yG ?_ _));exact BK400.out⟩,⟨by repeat (first|(with_reducible first|exact HB.out|apply yA|apply yB|apply yC|refine yD ?_ GE400.out)|exact HB.out)⟩⟩
   case round =>
    clear H'
    try clear p2
    try clear c3
    try clear c3b0
    try clear c3b1
    try clear c4
    try clear c4b0
    try clear c4b1
    try clear c5
    try clear p6
    try clear hcz11_0
    try clear hcz11_1
    try clear hcz11_2
    try clear hcz8_0
    try clear hcz8_1
    try clear hcz8_2
    try clear hfz11_0
    try clear hfz11_1
    try clear hfz11_2
    try clear hfz8_0
    try clear hfz8_1
    try clear hfz8_2
    obtain ⟨x4_1,x5_1,x6_1,rfl,HA,HK1,HO_4,HO_5,BK400,HB⟩:=hrel
    cases gk with
    | zero=>exact absurd HA.out (by simp [spec_l6mShape.l0])
    | succ k1 =>
     have H:=HA.out
     clear HA
     simp only [spec_l6mShape.l0] at H
     by_cases c12:0≤x6_1
     ·rw [if_pos c12] at H
      have c12b0:decide (0≤x6_1)=true:=decide_eq_true c12
      clear c12
      by_cases c13:x6_1<(x5_1.length:Int)
      ·rw [if_pos c13] at H
       have c13b0:decide (x6_1<(x5_1.length:Int))=true:=decide_eq_true c13
       clear c13
       by_cases c14:(rd x5_1 x6_1)=0
       ·rw [if_pos c14] at H
        have c14b0:((rd x5_1 x6_1) == 0)=true:=beq_iff_eq.mpr c14
        have c14b1:((rd x5_1 x6_1) != 0)=false:=bne_eq_false_iff_eq.mpr c14
        clear c14
        by_cases c15:x4_1.length<17592186044416
        ·rw [if_pos c15] at H
         have LMc15:=Aside0.mk c15
         clear c15
         obtain ⟨y408,hy408⟩:∃ y_:List Int,y_=(x4_1++[x6_1]):=⟨_,rfl⟩
         replace H:((spec_l6mStep.f k1 l0_0 a0_1 a0_2 x6_1).bind fun t412=>(spec_l6mShape.l0 k1 y408 (x5_1.set (x6_1:Int).toNat (y408.length:Int)) t412 l0_0 a0_1 a0_2))=some (r1,r2):=by first|(rw [hy408];with_reducible exact H)|(have H2_:=(Option.bind_some _ _).symm.trans H;rw [hy408];with_reducible exact H2_)|(have H2_:=(Option.bind_some _ _).symm.trans H;with_reducible exact H2_)|with_reducible exact H|(rw [hy408];exact H)|exact H
         have Ny408:=Aside0.mk hy408
         clear hy408
         obtain ⟨y411,hy411⟩:∃ y_:List Int,y_=(x5_1.set (x6_1:Int).toNat (y408.length:Int)):=⟨_,rfl⟩
         replace H:((spec_l6mStep.f k1 l0_0 a0_1 a0_2 x6_1).bind fun t412=>(spec_l6mShape.l0 k1 y408 y411 t412 l0_0 a0_1 a0_2))=some (r1,r2):=by first|(rw [hy411];with_reducible exact H)|(have H2_:=(Option.bind_some _ _).symm.trans H;rw [hy411];with_reducible exact H2_)|(have H2_:=(Option.bind_some _ _).symm.trans H;with_reducible exact H2_)|with_reducible exact H|(rw [hy411];exact H)|exact H
         have Ny411:=Aside0.mk hy411
         clear hy411
         replace H:=Option.bind_eq_some_iff.mp H
         obtain ⟨t412,A170,H⟩:=H
         replace H:(spec_l6mShape.l0 k1 y408 y411 t412 l0_0 a0_1 a0_2)=some (r1,r2):=H
         have A17:=Aside0.mk A170
         clear A170
         have H':=Aside0.mk H
         clear H
         obtain ⟨Ao18,co18,eo18⟩:=Kd.R_slice HO_5.out
         subst eo18
         have p407:0≤(x6_1:Int):=of_decide_eq_true (by first|(with_reducible assumption)|assumption)
         have q407:x6_1<(x5_1.length:Int):=of_decide_eq_true (by first|(with_reducible assumption)|assumption)
         obtain ⟨ad407,e407,hx407_0⟩:=Kd.at_int (Kd.R_reads' HO_5.out).2.2 x6_1 p407 q407
         cases e407
         replace p407:=eq_true p407
         replace q407:=eq_true q407
         go_wp2_with (first|((with_reducible refine gate_builtin (b:=.append) (xs:=#[.tmp 20,.tmp 22]) rfl ?_);at_builtin;refine Kd.R_append (Kd.int .i64) (w0:=w) w.heap.size rfl (.tmp 20) (.tmp 22) 25 3 (.int .i64 0) 8 rfl Try.underlying25 info3 rfl (by decide) (by omega) u4 x4_1 x6_1 [.int .i64 x6_1] (fun k_=>some k_≠(.slice (some ad407) x5_1.length co18:Value).ownBlock) (fun _=>False) rfl rfl ?aP (fun _ hk=>hk.elim) ?aF ?aO ?aB ?aS ?aL ?_;(case aP=>exact rfl);(case aB=>exact (by repeat (first|(with_reducible first|exact HB.out|apply yA|apply yB|apply yC|refine yD ?_ GE400.out)|exact HB.out)));(case aF=>exact (fun k_ hk=>Kd.fresh' (Kd.R_lt (by (with_reducible repeat (first|apply yH|apply yI|apply yJ));exact HO_5.out)) k_ hk));(case aO=>exact (by (with_reducible repeat (first|apply yH|apply yI|apply yJ));exact HO_4.out));(case aS=>exact (yQ (by repeat (first|(with_reducible first|exact HB.out|apply yA|apply yB|apply yC|refine yD ?_ GE400.out)|exact HB.out))));(case aL=>have:=LMc15.out;omega);intro v409 w19 ho hb hg hat;rw [← Ny408.out] at ho;have n0_:=Aside0.mk (Kd.R_after (ok:=(fun _=>True)) (by (with_reducible repeat (first|apply yH|apply yI|apply yJ));exact Kd.R_mono HO_5.out (fun _ hk=>⟨trivial,hk⟩)) hg hat);have n1_:=Aside0.mk (blk_grown (g:=gb400) (o:=.cells #[.slice A0_0 l0_0.length c0_0,.int .i64 a0_1,.int .i64 a0_2] 31 (0,0)) (by (with_reducible repeat (first|refine yE ?_ _|refine yF ?_|refine yG ?_ _));exact BK400.out) hg (Kd.R_ne HO_4.out BK400.out (by decide)));have n2_:=Aside0.mk (hb);have n3_:=Aside0.mk (ho);clear HO_5;clear BK400;clear HB;clear HO_4;have HO_5:=n0_;have BK400:=n1_;have HB:=n2_;have HO410:=n3_;clear n0_ n1_ n2_ n3_;clear ho hb hg hat;obtain ⟨Ao20,co20,eo20⟩:=Kd.R_slice HO410.out;subst eo20;have p16:0≤(x6_1:Int):=of_decide_eq_true (by first|(with_reducible assumption)|assumption);have q16:(x6_1:Int)<((x5_1.length:Int):Int):=of_decide_eq_true (by first|(with_reducible assumption)|assumption);obtain ⟨go16,co16,eo16,gb16,gl16,cl16,HG16⟩:=Kd.R_form HO_5.out (by omega);(first|cases eo16|(injection eo16 with ea_ en_ ec_;(first|subst ea_|(injection ea_ with ea_;subst ea_));subst ec_;clear en_));have GB16:=Aside0.mk gb16;have GG16:=Aside0.mk HG16;clear gb16 gl16 HG16;(first|simp only [add_plain] at hx407_0|skip);obtain ⟨hx16_0,hf16_0⟩:=Kd.R_celln 0 HO_5.out (x6_1:Int) p16 q16;replace p16:=eq_true p16;replace q16:=eq_true q16;have n_:=Aside0.mk (Kd.R_mono (ok':=(fun k_=>some k_≠(.slice Ao20 y408.length co20:Value).ownBlock)) HO_5.out (fun k_ hk=>hk.2));clear HO_5;have HO_5:=n_;clear n_;obtain ⟨hy21_,hz21_⟩:=Kd.R_celln 0 HO_5.out (x6_1:Int) (of_decide_eq_true (by first|(with_reducible assumption)|assumption)) (of_decide_eq_true (by first|(with_reducible assumption)|assumption));have HP21:=Kd.R_putg HO_5.out (x6_1:Int) (y408.length:Int))|((with_reducible refine gate_store (t:=3) (p:=28) rfl ?_);(try (rw [drewN_self w19];generalize hq_:World.drewN w19 _=w19;have n0_:=Aside0.mk (Kd.R_at hq_ HO_5.out);have n1_:=Aside0.mk (Kd.R_at hq_ HO410.out);have n2_:=Aside0.mk (blk_at hq_ BK400.out);have n3_:=Aside0.mk (below_at hq_ HB.out);clear hq_ HO_5 HO410 BK400 HB;have HO_5:=n0_;have HO410:=n1_;have BK400:=n2_;have HB:=n3_;clear n0_ n1_ n2_ n3_;(try (have n_:=Aside0.mk (Kd.R_mono (ok':=(fun k_=>some k_≠(.slice Ao20 y408.length co20:Value).ownBlock)) HO_5.out (fun k_ hk=>hk.2));clear HO_5;have HO_5:=n_;clear n_));(try (obtain ⟨hy21_,hz21_⟩:=Kd.R_celln 0 HO_5.out (x6_1:Int) (of_decide_eq_true (by first|(with_reducible assumption)|assumption)) (of_decide_eq_true (by first|(with_reducible assumption)|assumption))));(try (have HP21:=Kd.R_putg HO_5.out (x6_1:Int) (y408.length:Int)))));refine store_event (t:=3) (p:=28) (v:=?vo_w22) (w1:=(w19.setCell ⟨go16,(x6_1:Int).toNat,none⟩ (.int .i64 (y408.length:Int)))) ?hg ?ho ?hn ?hr ?_;(case ho=>rfl);(case hg=>rfl);(case hn=>rfl);(case hr=>first|(go_simp;done)|(go_simp;rfl));intro w22 hw;have hg:w19.grownBy w22 (some go16):=(by rw [hw];exact HP21.2);have hp_:Kd.R (Kd.int .i64) 3 w22 w.heap.size (fun k_=>some k_≠(.slice Ao20 y408.length co20:Value).ownBlock) (.slice (some ⟨go16,0,none⟩) x5_1.length co18) y411:=(by rw [hw,Ny411.out];exact HP21.1);clear HP21;have n0_:=Aside0.mk (hp_);have n1_:=Aside0.mk (blk_grown (g:=gb400) (o:=.cells #[.slice A0_0 l0_0.length c0_0,.int .i64 a0_1,.int .i64 a0_2] 31 (0,0)) (by (with_reducible repeat (first|refine yE ?_ _|refine yF ?_|refine yG ?_ _));exact BK400.out) hg (Kd.R_ne HO_5.out BK400.out (by decide)));have n2_:=Aside0.mk (Kd.R_after (v:=(.slice (some ⟨go16,0,none⟩) x5_1.length co18)) (v1:=(.slice (some ⟨go16,0,none⟩) x5_1.length co18)) (ok:=(fun _=>True)) (by (with_reducible repeat (first|apply yH|apply yI|apply yJ));exact Kd.R_mono HO410.out (fun _ hk=>⟨trivial,hk⟩)) hg (.inl rfl));have n3_:=Aside0.mk ((by rw [hw];exact yD (HB.out) GB16.out:Below w.heap.size w w22));clear HO_5;clear BK400;clear HO410;clear HB;have HO_5:=n0_;have BK400:=n1_;have HO410:=n2_;have HB:=n3_;clear n0_ n1_ n2_ n3_;clear hg hw hp_;have hcz23_0:w22.cell? ⟨gb400,0,none⟩=some (.slice A0_0 l0_0.length c0_0):=(blk_cell BK400.out 0).trans rfl;have hcz23_1:w22.cell? ⟨gb400,1,none⟩=some (.int .i64 a0_1):=(blk_cell BK400.out 1).trans rfl;have hcz23_2:w22.cell? ⟨gb400,2,none⟩=some (.int .i64 a0_2):=(blk_cell BK400.out 2).trans rfl;have hfz23_0:=blk_frozen BK400.out 0;have hfz23_1:=blk_frozen BK400.out 1;have hfz23_2:=blk_frozen BK400.out 2)|(go_at_call 73;(with_reducible refine (spec_l6mStep.calls k1 _ _ l0_0 a0_1 a0_2 x6_1 t412 _ ?side1 ?side2 A17.out).mono ?_);(case side1=>repeat (first|exact (Kd.C_below HR0_0.out HB.out)|(with_reducible refine Kd.C_alloc ?_ _)|(with_reducible refine Kd.C_drewN ?_ _)|(with_reducible refine Kd.C_drew ?_)));(case side2=>exact HC0_0.out);rintro e w24 ⟨rfl,hb⟩;have n0_:=Aside0.mk (Kd.R_below (by (with_reducible repeat (first|apply yH|apply yI|apply yJ));exact HO_5.out) hb);have n1_:=Aside0.mk (Kd.R_below (by (with_reducible repeat (first|apply yH|apply yI|apply yJ));exact HO410.out) hb);have n2_:=Aside0.mk (blk_below (g:=gb400) (o:=.cells #[.slice A0_0 l0_0.length c0_0,.int .i64 a0_1,.int .i64 a0_2] 31 (0,0)) (by (with_reducible repeat (first|refine yE ?_ _|refine yF ?_|refine yG ?_ _));exact BK400.out) hb);have n3_:=Aside0.mk (yP (by repeat (first|(with_reducible first|exact HB.out|apply yA|apply yB|apply yC|refine yD ?_ GE400.out)|exact HB.out)) hb);clear HO_5;clear HO410;clear BK400;clear HB;have HO_5:=n0_;have HO410:=n1_;have BK400:=n2_;have HB:=n3_;clear n0_ n1_ n2_ n3_;(try clear hb);(try clear hb2);(try clear hk);(try clear hi)))
         repeat (go_quiet (first|((with_reducible refine gate_builtin (b:=.append) (xs:=#[.tmp 20,.tmp 22]) rfl ?_);at_builtin;refine Kd.R_append (Kd.int .i64) (w0:=w) w.heap.size rfl (.tmp 20) (.tmp 22) 25 3 (.int .i64 0) 8 rfl Try.underlying25 info3 rfl (by decide) (by omega) u4 x4_1 x6_1 [.int .i64 x6_1] (fun k_=>some k_≠(.slice (some ad407) x5_1.length co18:Value).ownBlock) (fun _=>False) rfl rfl ?aP (fun _ hk=>hk.elim) ?aF ?aO ?aB ?aS ?aL ?_;(case aP=>exact rfl);(case aB=>exact (by repeat (first|(with_reducible first|exact HB.out|apply yA|apply yB|apply yC|refine yD ?_ GE400.out)|exact HB.out)));(case aF=>exact (fun k_ hk=>Kd.fresh' (Kd.R_lt (by (with_reducible repeat (first|apply yH|apply yI|apply yJ));exact HO_5.out)) k_ hk));(case aO=>exact (by (with_reducible repeat (first|apply yH|apply yI|apply yJ));exact HO_4.out));(case aS=>exact (yQ (by repeat (first|(with_reducible first|exact HB.out|apply yA|apply yB|apply yC|refine yD ?_ GE400.out)|exact HB.out))));(case aL=>have:=LMc15.out;omega);intro v409 w19 ho hb hg hat;rw [← Ny408.out] at ho;have n0_:=Aside0.mk (Kd.R_after (ok:=(fun _=>True)) (by (with_reducible repeat (first|apply yH|apply yI|apply yJ));exact Kd.R_mono HO_5.out (fun _ hk=>⟨trivial,hk⟩)) hg hat);have n1_:=Aside0.mk (blk_grown (g:=gb400) (o:=.cells #[.slice A0_0 l0_0.length c0_0,.int .i64 a0_1,.int .i64 a0_2] 31 (0,0)) (by (with_reducible repeat (first|refine yE ?_ _|refine yF ?_|refine yG ?_ _));exact BK400.out) hg (Kd.R_ne HO_4.out BK400.out (by decide)));have n2_:=Aside0.mk (hb);have n3_:=Aside0.mk (ho);clear HO_5;clear BK400;clear HB;clear HO_4;have HO_5:=n0_;have BK400:=n1_;have HB:=n2_;have HO410:=n3_;clear n0_ n1_ n2_ n3_;clear ho hb hg hat;obtain ⟨Ao20,co20,eo20⟩:=Kd.R_slice HO410.out;subst eo20;have p16:0≤(x6_1:Int):=of_decide_eq_true (by first|(with_reducible assumption)|assumption);have q16:(x6_1:Int)<((x5_1.length:Int):Int):=of_decide_eq_true (by first|(with_reducible assumption)|assumption);obtain ⟨go16,co16,eo16,gb16,gl16,cl16,HG16⟩:=Kd.R_form HO_5.out (by omega);(first|cases eo16|(injection eo16 with ea_ en_ ec_;(first|subst ea_|(injection ea_ with ea_;subst ea_));subst ec_;clear en_));have GB16:=Aside0.mk gb16;have GG16:=Aside0.mk HG16;clear gb16 gl16 HG16;(first|simp only [add_plain] at hx407_0|skip);obtain ⟨hx16_0,hf16_0⟩:=Kd.R_celln 0 HO_5.out (x6_1:Int) p16 q16;replace p16:=eq_true p16;replace q16:=eq_true q16;have n_:=Aside0.mk (Kd.R_mono (ok':=(fun k_=>some k_≠(.slice Ao20 y408.length co20:Value).ownBlock)) HO_5.out (fun k_ hk=>hk.2));clear HO_5;have HO_5:=n_;clear n_;obtain ⟨hy21_,hz21_⟩:=Kd.R_celln 0 HO_5.out (x6_1:Int) (of_decide_eq_true (by first|(with_reducible assumption)|assumption)) (of_decide_eq_true (by first|(with_reducible assumption)|assumption));have HP21:=Kd.R_putg HO_5.out (x6_1:Int) (y408.length:Int))|((with_reducible refine gate_store (t:=3) (p:=28) rfl ?_);(try (rw [drewN_self w19];generalize hq_:World.drewN w19 _=w19;have n0_:=Aside0.mk (Kd.R_at hq_ HO_5.out);have n1_:=Aside0.mk (Kd.R_at hq_ HO410.out);have n2_:=Aside0.mk (blk_at hq_ BK400.out);have n3_:=Aside0.mk (below_at hq_ HB.out);clear hq_ HO_5 HO410 BK400 HB;have HO_5:=n0_;have HO410:=n1_;have BK400:=n2_;have HB:=n3_;clear n0_ n1_ n2_ n3_;(try (have n_:=Aside0.mk (Kd.R_mono (ok':=(fun k_=>some k_≠(.slice Ao20 y408.length co20:Value).ownBlock)) HO_5.out (fun k_ hk=>hk.2));clear HO_5;have HO_5:=n_;clear n_));(try (obtain ⟨hy21_,hz21_⟩:=Kd.R_celln 0 HO_5.out (x6_1:Int) (of_decide_eq_true (by first|(with_reducible assumption)|assumption)) (of_decide_eq_true (by first|(with_reducible assumption)|assumption))));(try (have HP21:=Kd.R_putg HO_5.out (x6_1:Int) (y408.length:Int)))));refine store_event (t:=3) (p:=28) (v:=?vo_w22) (w1:=(w19.setCell ⟨go16,(x6_1:Int).toNat,none⟩ (.int .i64 (y408.length:Int)))) ?hg ?ho ?hn ?hr ?_;(case ho=>rfl);(case hg=>rfl);(case hn=>rfl);(case hr=>first|(go_simp;done)|(go_simp;rfl));intro w22 hw;have hg:w19.grownBy w22 (some go16):=(by rw [hw];exact HP21.2);have hp_:Kd.R (Kd.int .i64) 3 w22 w.heap.size (fun k_=>some k_≠(.slice Ao20 y408.length co20:Value).ownBlock) (.slice (some ⟨go16,0,none⟩) x5_1.length co18) y411:=(by rw [hw,Ny411.out];exact HP21.1);clear HP21;have n0_:=Aside0.mk (hp_);have n1_:=Aside0.mk (blk_grown (g:=gb400) (o:=.cells #[.slice A0_0 l0_0.length c0_0,.int .i64 a0_1,.int .i64 a0_2] 31 (0,0)) (by (with_reducible repeat (first|refine yE ?_ _|refine yF ?_|refine yG ?_ _));exact BK400.out) hg (Kd.R_ne HO_5.out BK400.out (by decide)));have n2_:=Aside0.mk (Kd.R_after (v:=(.slice (some ⟨go16,0,none⟩) x5_1.length co18)) (v1:=(.slice (some ⟨go16,0,none⟩) x5_1.length co18)) (ok:=(fun _=>True)) (by (with_reducible repeat (first|apply yH|apply yI|apply yJ));exact Kd.R_mono HO410.out (fun _ hk=>⟨trivial,hk⟩)) hg (.inl rfl));have n3_:=Aside0.mk ((by rw [hw];exact yD (HB.out) GB16.out:Below w.heap.size w w22));clear HO_5;clear BK400;clear HO410;clear HB;have HO_5:=n0_;have BK400:=n1_;have HO410:=n2_;have HB:=n3_;clear n0_ n1_ n2_ n3_;clear hg hw hp_;have hcz23_0:w22.cell? ⟨gb400,0,none⟩=some (.slice A0_0 l0_0.length c0_0):=(blk_cell BK400.out 0).trans rfl;have hcz23_1:w22.cell? ⟨gb400,1,none⟩=some (.int .i64 a0_1):=(blk_cell BK400.out 1).trans rfl;have hcz23_2:w22.cell? ⟨gb400,2,none⟩=some (.int .i64 a0_2):=(blk_cell BK400.out 2).trans rfl;have hfz23_0:=blk_frozen BK400.out 0;have hfz23_1:=blk_frozen BK400.out 1;have hfz23_2:=blk_frozen BK400.out 2)|(go_at_call 73;(with_reducible refine (spec_l6mStep.calls k1 _ _ l0_0 a0_1 a0_2 x6_1 t412 _ ?side1 ?side2 A17.out).mono ?_);(case side1=>repeat (first|exact (Kd.C_below HR0_0.out HB.out)|(with_reducible refine Kd.C_alloc ?_ _)|(with_reducible refine Kd.C_drewN ?_ _)|(with_reducible refine Kd.C_drew ?_)));(case side2=>exact HC0_0.out);rintro e w24 ⟨rfl,hb⟩;have n0_:=Aside0.mk (Kd.R_below (by (with_reducible repeat (first|apply yH|apply yI|apply yJ));exact HO_5.out) hb);have n1_:=Aside0.mk (Kd.R_below (by (with_reducible repeat (first|apply yH|apply yI|apply yJ));exact HO410.out) hb);have n2_:=Aside0.mk (blk_below (g:=gb400) (o:=.cells #[.slice A0_0 l0_0.length c0_0,.int .i64 a0_1,.int .i64 a0_2] 31 (0,0)) (by (with_reducible repeat (first|refine yE ?_ _|refine yF ?_|refine yG ?_ _));exact BK400.out) hb);have n3_:=Aside0.mk (yP (by repeat (first|(with_reducible first|exact HB.out|apply yA|apply yB|apply yC|refine yD ?_ GE400.out)|exact HB.out)) hb);clear HO_5;clear HO410;clear BK400;clear HB;have HO_5:=n0_;have HO410:=n1_;have BK400:=n2_;have HB:=n3_;clear n0_ n1_ n2_ n3_;(try clear hb);(try clear hb2);(try clear hk);(try clear hi)));try go_wp2_with (first|((with_reducible refine gate_builtin (b:=.append) (xs:=#[.tmp 20,.tmp 22]) rfl ?_);at_builtin;refine Kd.R_append (Kd.int .i64) (w0:=w) w.heap.size rfl (.tmp 20) (.tmp 22) 25 3 (.int .i64 0) 8 rfl Try.underlying25 info3 rfl (by decide) (by omega) u4 x4_1 x6_1 [.int .i64 x6_1] (fun k_=>some k_≠(.slice (some ad407) x5_1.length co18:Value).ownBlock) (fun _=>False) rfl rfl ?aP (fun _ hk=>hk.elim) ?aF ?aO ?aB ?aS ?aL ?_;(case aP=>exact rfl);(case aB=>exact (by repeat (first|(with_reducible first|exact HB.out|apply yA|apply yB|apply yC|refine yD ?_ GE400.out)|exact HB.out)));(case aF=>exact (fun k_ hk=>Kd.fresh' (Kd.R_lt (by (with_reducible repeat (first|apply yH|apply yI|apply yJ));exact HO_5.out)) k_ hk));(case aO=>exact (by (with_reducible repeat (first|apply yH|apply yI|apply yJ));exact HO_4.out));(case aS=>exact (yQ (by repeat (first|(with_reducible first|exact HB.out|apply yA|apply yB|apply yC|refine yD ?_ GE400.out)|exact HB.out))));(case aL=>have:=LMc15.out;omega);intro v409 w19 ho hb hg hat;rw [← Ny408.out] at ho;have n0_:=Aside0.mk (Kd.R_after (ok:=(fun _=>True)) (by (with_reducible repeat (first|apply yH|apply yI|apply yJ));exact Kd.R_mono HO_5.out (fun _ hk=>⟨trivial,hk⟩)) hg hat);have n1_:=Aside0.mk (blk_grown (g:=gb400) (o:=.cells #[.slice A0_0 l0_0.length c0_0,.int .i64 a0_1,.int .i64 a0_2] 31 (0,0)) (by (with_reducible repeat (first|refine yE ?_ _|refine yF ?_|refine yG ?_ _));exact BK400.out) hg (Kd.R_ne HO_4.out BK400.out (by decide)));have n2_:=Aside0.mk (hb);have n3_:=Aside0.mk (ho);clear HO_5;clear BK400;clear HB;clear HO_4;have HO_5:=n0_;have BK400:=n1_;have HB:=n2_;have HO410:=n3_;clear n0_ n1_ n2_ n3_;clear ho hb hg hat;obtain ⟨Ao20,co20,eo20⟩:=Kd.R_slice HO410.out;subst eo20;have p16:0≤(x6_1:Int):=of_decide_eq_true (by first|(with_reducible assumption)|assumption);have q16:(x6_1:Int)<((x5_1.length:Int):Int):=of_decide_eq_true (by first|(with_reducible assumption)|assumption);obtain ⟨go16,co16,eo16,gb16,gl16,cl16,HG16⟩:=Kd.R_form HO_5.out (by omega);(first|cases eo16|(injection eo16 with ea_ en_ ec_;(first|subst ea_|(injection ea_ with ea_;subst ea_));subst ec_;clear en_));have GB16:=Aside0.mk gb16;have GG16:=Aside0.mk HG16;clear gb16 gl16 HG16;(first|simp only [add_plain] at hx407_0|skip);obtain ⟨hx16_0,hf16_0⟩:=Kd.R_celln 0 HO_5.out (x6_1:Int) p16 q16;replace p16:=eq_true p16;replace q16:=eq_true q16;have n_:=Aside0.mk (Kd.R_mono (ok':=(fun k_=>some k_≠(.slice Ao20 y408.length co20:Value).ownBlock)) HO_5.out (fun k_ hk=>hk.2));clear HO_5;have HO_5:=n_;clear n_;obtain ⟨hy21_,hz21_⟩:=Kd.R_celln 0 HO_5.out (x6_1:Int) (of_decide_eq_true (by first|(with_reducible assumption)|assumption)) (of_decide_eq_true (by first|(with_reducible assumption)|assumption));have HP21:=Kd.R_putg HO_5.out (x6_1:Int) (y408.length:Int))|((with_reducible refine gate_store (t:=3) (p:=28) rfl ?_);(try (rw [drewN_self w19];generalize hq_:World.drewN w19 _=w19;have n0_:=Aside0.mk (Kd.R_at hq_ HO_5.out);have n1_:=Aside0.mk (Kd.R_at hq_ HO410.out);have n2_:=Aside0.mk (blk_at hq_ BK400.out);have n3_:=Aside0.mk (below_at hq_ HB.out);clear hq_ HO_5 HO410 BK400 HB;have HO_5:=n0_;have HO410:=n1_;have BK400:=n2_;have HB:=n3_;clear n0_ n1_ n2_ n3_;(try (have n_:=Aside0.mk (Kd.R_mono (ok':=(fun k_=>some k_≠(.slice Ao20 y408.length co20:Value).ownBlock)) HO_5.out (fun k_ hk=>hk.2));clear HO_5;have HO_5:=n_;clear n_));(try (obtain ⟨hy21_,hz21_⟩:=Kd.R_celln 0 HO_5.out (x6_1:Int) (of_decide_eq_true (by first|(with_reducible assumption)|assumption)) (of_decide_eq_true (by first|(with_reducible assumption)|assumption))));(try (have HP21:=Kd.R_putg HO_5.out (x6_1:Int) (y408.length:Int)))));refine store_event (t:=3) (p:=28) (v:=?vo_w22) (w1:=(w19.setCell ⟨go16,(x6_1:Int).toNat,none⟩ (.int .i64 (y408.length:Int)))) ?hg ?ho ?hn ?hr ?_;(case ho=>rfl);(case hg=>rfl);(case hn=>rfl);(case hr=>first|(go_simp;done)|(go_simp;rfl));intro w22 hw;have hg:w19.grownBy w22 (some go16):=(by rw [hw];exact HP21.2);have hp_:Kd.R (Kd.int .i64) 3 w22 w.heap.size (fun k_=>some k_≠(.slice Ao20 y408.length co20:Value).ownBlock) (.slice (some ⟨go16,0,none⟩) x5_1.length co18) y411:=(by rw [hw,Ny411.out];exact HP21.1);clear HP21;have n0_:=Aside0.mk (hp_);have n1_:=Aside0.mk (blk_grown (g:=gb400) (o:=.cells #[.slice A0_0 l0_0.length c0_0,.int .i64 a0_1,.int .i64 a0_2] 31 (0,0)) (by (with_reducible repeat (first|refine yE ?_ _|refine yF ?_|refine yG ?_ _));exact BK400.out) hg (Kd.R_ne HO_5.out BK400.out (by decide)));have n2_:=Aside0.mk (Kd.R_after (v:=(.slice (some ⟨go16,0,none⟩) x5_1.length co18)) (v1:=(.slice (some ⟨go16,0,none⟩) x5_1.length co18)) (ok:=(fun _=>True)) (by (with_reducible repeat (first|apply yH|apply yI|apply yJ));exact Kd.R_mono HO410.out (fun _ hk=>⟨trivial,hk⟩)) hg (.inl rfl));have n3_:=Aside0.mk ((by rw [hw];exact yD (HB.out) GB16.out:Below w.heap.size w w22));clear HO_5;clear BK400;clear HO410;clear HB;have HO_5:=n0_;have BK400:=n1_;have HO410:=n2_;have HB:=n3_;clear n0_ n1_ n2_ n3_;clear hg hw hp_;have hcz23_0:w22.cell? ⟨gb400,0,none⟩=some (.slice A0_0 l0_0.length c0_0):=(blk_cell BK400.out 0).trans rfl;have hcz23_1:w22.cell? ⟨gb400,1,none⟩=some (.int .i64 a0_1):=(blk_cell BK400.out 1).trans rfl;have hcz23_2:w22.cell? ⟨gb400,2,none⟩=some (.int .i64 a0_2):=(blk_cell BK400.out 2).trans rfl;have hfz23_0:=blk_frozen BK400.out 0;have hfz23_1:=blk_frozen BK400.out 1;have hfz23_2:=blk_frozen BK400.out 2)|(go_at_call 73;(with_reducible refine (spec_l6mStep.calls k1 _ _ l0_0 a0_1 a0_2 x6_1 t412 _ ?side1 ?side2 A17.out).mono ?_);(case side1=>repeat (first|exact (Kd.C_below HR0_0.out HB.out)|(with_reducible refine Kd.C_alloc ?_ _)|(with_reducible refine Kd.C_drewN ?_ _)|(with_reducible refine Kd.C_drew ?_)));(case side2=>exact HC0_0.out);rintro e w24 ⟨rfl,hb⟩;have n0_:=Aside0.mk (Kd.R_below (by (with_reducible repeat (first|apply yH|apply yI|apply yJ));exact HO_5.out) hb);have n1_:=Aside0.mk (Kd.R_below (by (with_reducible repeat (first|apply yH|apply yI|apply yJ));exact HO410.out) hb);have n2_:=Aside0.mk (blk_below (g:=gb400) (o:=.cells #[.slice A0_0 l0_0.length c0_0,.int .i64 a0_1,.int .i64 a0_2] 31 (0,0)) (by (with_reducible repeat (first|refine yE ?_ _|refine yF ?_|refine yG ?_ _));exact BK400.out) hb);have n3_:=Aside0.mk (yP (by repeat (first|(with_reducible first|exact HB.out|apply yA|apply yB|apply yC|refine yD ?_ GE400.out)|exact HB.out)) hb);clear HO_5;clear HO410;clear BK400;clear HB;have HO_5:=n0_;have HO410:=n1_;have BK400:=n2_;have HB:=n3_;clear n0_ n1_ n2_ n3_;(try clear hb);(try clear hb2);(try clear hk);(try clear hi))))
         go_roundg k1
         case measure=>have:=HK1.out;omega
         case rel=>exact ⟨(y408),(y411),(t412),(by first|rfl|(simp;done)|(simp [*];done)|(simp [Int.tmod_eq_emod_of_nonneg];done)),H',⟨by have:=HK1.out;omega⟩,⟨by (with_reducible repeat (first|apply yH|apply yI|apply yJ));exact Kd.R_mono HO410.out (fun _ hk=>hk.2)⟩,⟨by (with_reducible repeat (first|apply yH|apply yI|apply yJ));exact HO_5.out⟩,⟨by (with_reducible repeat (first|refine yE ?_ _|refine yF ?_|refine yG ?_ _));exact BK400.out⟩,⟨by repeat (first|(with_reducible first|exact HB.out|apply yA|apply yB|apply yC|refine yD ?_ GE400.out)|exact HB.out)⟩⟩
        ·rw [if_neg c15] at H
         exact absurd H (by simp)
       ·rw [if_neg c14] at H
        have c14b0:((rd x5_1 x6_1) == 0)=false:=beq_eq_false_iff_ne.mpr c14
        have c14b1:((rd x5_1 x6_1) != 0)=true:=bne_iff_ne.mpr c14
        simp only [Option.some.injEq,Prod.mk.injEq] at H
        obtain ⟨rfl,rfl⟩:=H
        obtain ⟨Ao25,co25,eo25⟩:=Kd.R_slice HO_5.out
        subst eo25
        have p407:0≤(x6_1:Int):=of_decide_eq_true (by first|(with_reducible assumption)|assumption)
        have q407:x6_1<(x5_1.length:Int):=of_decide_eq_true (by first|(with_reducible assumption)|assumption)
        obtain ⟨ad407,e407,hx407_0⟩:=Kd.at_int (Kd.R_reads' HO_5.out).2.2 x6_1 p407 q407
        cases e407
        replace p407:=eq_true p407
        replace q407:=eq_true q407
        have p413:0≤(x6_1:Int):=of_decide_eq_true (by first|(with_reducible assumption)|assumption)
        have q413:x6_1<(x5_1.length:Int):=of_decide_eq_true (by first|(with_reducible assumption)|assumption)
        obtain ⟨ad413,e413,hx413_0⟩:=Kd.at_int (Kd.R_reads' HO_5.out).2.2 x6_1 p413 q413
        obtain rfl:ad407=ad413:=(by injection e413)
        replace p413:=eq_true p413
        replace q413:=eq_true q413
        go_wp2
        repeat (go_quiet (fail);try go_wp2)
        go_ret2
        exact ⟨_,by first|rfl|(simp [errW_none,errW_some]<;>rfl)|(simp only [← hji2];first|rfl|(simp [errW_none,errW_some]<;>rfl))|(simp [*,errW_none,errW_some]<;>rfl),by (with_reducible repeat (first|apply yH|apply yI|apply yJ));exact Kd.R_mono HO_4.out (fun _ hk=>trivial),by repeat (first|(with_reducible first|exact HB.out|apply yA|apply yB|apply yC|refine yD ?_ GE400.out)|exact HB.out)⟩
      ·rw [if_neg c13] at H
       exact absurd H (by simp)
     ·rw [if_neg c12] at H
      exact absurd H (by simp)
  ·rw [if_neg c4] at H
   exact absurd H (by simp)
 ·rw [if_neg c3] at H
  exact absurd H (by simp)

end Go.Proofs.Ytgheopbdmijlkaa.P

namespace Go.Proofs.Ytgheopbdmijlkaa.P
open Go.RowKit Go.Proofs.YtgheopbdmijlkaaW.PrintWords Go.Proofs.YtgheopbdmijlkaaW.PrintLast Go.Proofs.YtgheopbdmijlkaaW.PrintMore
attribute [local go_sem] max2_int min2_int max_two min_two max_three min_three max_four min_four   -- for this text's walks alone
set_option linter.unusedVariables false
set_option linter.unusedSimpArgs false

/-! ### spec_l6mSet: function 37 -/
def spec_l6mSet.l0:Nat→List Int→Int→List Bool→Int→List Int→Int→Int→Option (List Bool × List Bool)
 | 0,_,_,_,_,_,_,_=>none
 | k+1,x3,x4,x5,x6,x415000,x415001,x415002=>if x6<(x3.length:Int) then (if 0≤x6 then (if x5.length<140737488355328 then (spec_l6mSet.l0 k x3 x4 (x5++[((Go.bits .and .i64 (rd x3 x6) x415002) != 0)]) (wrap64 (x6+1)) x415000 x415001 x415002) else (none)) else (none)) else (if 0≤x4 then (if x4≤(x5.length:Int) then ((spec_l1Less.f k (x5.take (x4:Int).toNat) (x5.drop (x4:Int).toNat)).bind fun bt437=>(some (bt437.1,bt437.2))) else (none)) else (none))
def spec_l6mSet.f (k:Nat) (l0_0:List Int) (a0_1:Int) (a0_2:Int):Option (List Bool × List Bool):=(spec_l6mShape.f k l0_0 a0_1 a0_2).bind fun bt416=>(spec_l6mSet.l0 k bt416.1 bt416.2 (([]:List Bool)) 0 l0_0 a0_1 a0_2)
theorem spec_l6mSet.mono_l:∀ k,(∀ y0 y1 y2 y3 y4 y5 y6,LeO (spec_l6mSet.l0 k y0 y1 y2 y3 y4 y5 y6) (spec_l6mSet.l0 (k+1) y0 y1 y2 y3 y4 y5 y6))
 | 0=>fun _ _ _ _ _ _ _ r h=>by simp [spec_l6mSet.l0] at h
 | k+1=>by
  have ih0:=spec_l6mSet.mono_l k
  ·intro y0 y1 y2 y3 y4 y5 y6
   unfold spec_l6mSet.l0
   repeat' first
   | (with_reducible exact ih0 _ _ _ _ _ _ _)
   | (with_reducible exact spec_l1Less.mono _ _ _)
   | (with_reducible exact spec_l6mShape.mono _ _ _ _)
   | (with_reducible exact LeO.refl _)
   | (with_reducible exact LeO.none _)
   | (with_reducible refine LeO.ite ?_ ?_)
   | (with_reducible refine LeO.bind ?_ (fun _=>?_))
   | exact ih0 _ _ _ _ _ _ _
   | exact spec_l1Less.mono _ _ _
   | exact spec_l6mShape.mono _ _ _ _
   | exact LeO.none _
   | refine LeO.ite ?_ ?_
   | refine LeO.bind ?_ (fun _=>?_)
theorem spec_l6mSet.mono:∀ a0 a1 a2 k,LeO (spec_l6mSet.f k a0 a1 a2) (spec_l6mSet.f (k+1) a0 a1 a2):=by
 intro a0 a1 a2 k
 have ih0:=spec_l6mSet.mono_l k
 unfold spec_l6mSet.f
 repeat' first
   | (with_reducible exact ih0 _ _ _ _ _ _ _)
   | (with_reducible exact spec_l1Less.mono _ _ _)
   | (with_reducible exact spec_l6mShape.mono _ _ _ _)
   | (with_reducible exact LeO.refl _)
   | (with_reducible exact LeO.none _)
   | (with_reducible refine LeO.ite ?_ ?_)
   | (with_reducible refine LeO.bind ?_ (fun _=>?_))
   | exact ih0 _ _ _ _ _ _ _
   | exact spec_l1Less.mono _ _ _
   | exact spec_l6mShape.mono _ _ _ _
   | exact LeO.none _
   | refine LeO.ite ?_ ?_
   | refine LeO.bind ?_ (fun _=>?_)
def spec_l6mSet.T6:Bool × List (List Nat × List Nat):=(true,[([],[]),([],[]),([],[]),([1,2],[1,2]),([3],[3]),([],[]),([5],[5]),([4,6],[4,6]),([7],[7]),([8],[8]),([0,9],[0,9]),([10,10,0,1,2,3,4,5,6,7,8,9,10],[0,10])])
def spec_l6mSet.B6:List Nat:=[0,0,0,6,14,0,32,126,254,510,1023,2047]
theorem spec_l6mSet.tab6:rtab .any (opsOf Try.f37 6)=spec_l6mSet.T6:=by kernel_rfl
theorem spec_l6mSet.bits6:waitsOk spec_l6mSet.T6.2 spec_l6mSet.B6=true:=by kernel_rfl
def spec_l6mSet.T7:Bool × List (List Nat × List Nat):=(true,[([],[]),([],[]),([0,1],[0,1]),([],[]),([],[]),([3,4],[3,4]),([2,5],[2,5]),([6],[6]),([7,7,0,1,2,3,4,5,6,7],[7])])
def spec_l6mSet.B7:List Nat:=[0,0,3,0,0,24,63,127,255]
theorem spec_l6mSet.tab7:rtab .any (opsOf Try.f37 7)=spec_l6mSet.T7:=by kernel_rfl
theorem spec_l6mSet.bits7:waitsOk spec_l6mSet.T7.2 spec_l6mSet.B7=true:=by kernel_rfl
set_option maxHeartbeats 8000000 in
set_option maxRecDepth 100000 in
theorem spec_l6mSet.calls (k:Nat) (A0_0:Option Addr) (c0_0:Nat) (l0_0:List Int) (a0_1:Int) (a0_2:Int) (r1:List Bool) (r2:List Bool) (w:World) (hr0_0:Kd.C (Kd.int .i64) w A0_0 l0_0.length l0_0) (hc0_0:l0_0.length≤c0_0) (h:spec_l6mSet.f k l0_0 a0_1 a0_2=some (r1,r2)) :
  Calls Try.prog 37 #[.agg #[.slice A0_0 l0_0.length c0_0,.int .i64 a0_1,.int .i64 a0_2]] w fun e w'=>∃ v0_ v1_:Value,e=.returned (.agg #[v0_,v1_])∧Kd.V Kd.bool 4 w' w.heap.size (fun k_=>(w.heap.size≤k_)) v0_ r1∧Kd.V Kd.bool 4 w' w.heap.size (fun k_=>(w.heap.size≤k_)) v1_ r2∧Below w.heap.size w w':=by
 have hu31:=Try.underlying31
 have hu50:=Try.underlying50
 have HR0_0:=Aside0.mk hr0_0
 have HC0_0:=Aside0.mk hc0_0
 clear hr0_0 hc0_0
 have HB:=Aside0.mk (Below.refl w.heap.size w)
 have H:((spec_l6mShape.f k l0_0 a0_1 a0_2).bind fun bt416=>(spec_l6mSet.l0 k bt416.1 bt416.2 (([]:List Bool)) 0 l0_0 a0_1 a0_2))=some (r1,r2):=h
 clear h
 replace H:=Option.bind_eq_some_iff.mp H
 obtain ⟨⟨t416,t419⟩,A20,H⟩:=H
 replace H:(spec_l6mSet.l0 k t416 t419 (([]:List Bool)) 0 l0_0 a0_1 a0_2)=some (r1,r2):=H
 have A2:=Aside0.mk A20
 clear A20
 obtain ⟨y420,hy420⟩:∃ y_:List Bool,y_=(([]:List Bool)):=⟨_,rfl⟩
 replace H:(spec_l6mSet.l0 k t416 t419 y420 0 l0_0 a0_1 a0_2)=some (r1,r2):=by first|(rw [hy420];with_reducible exact H)|(have H2_:=(Option.bind_some _ _).symm.trans H;rw [hy420];with_reducible exact H2_)|(have H2_:=(Option.bind_some _ _).symm.trans H;with_reducible exact H2_)|with_reducible exact H|(rw [hy420];exact H)|exact H
 have Ny420:=Aside0.mk hy420
 clear hy420
 have H':=Aside0.mk H
 clear H
 go_enter Try.func37,Try.ntmps37
 go_wp2_with (first|((with_reducible refine gate_dst (N:=1) rfl ?_);refine box_event ?hg (N:=1) ?hd (cs:=#[.slice A0_0 l0_0.length c0_0,.int .i64 a0_1,.int .i64 a0_2]) (t:=31) ?hr ?_;(case hd=>rfl);(case hg=>rfl);(case hr=>first|(go_simp;done)|(go_simp;rfl));intro gb414 hg w3 hbox hb;have n0_:=Aside0.mk (yP (by repeat (first|(with_reducible first|exact HB.out|apply yA|apply yB|apply yC)|exact HB.out)) hb);have n1_:=Aside0.mk (hbox);have n2_:=Aside0.mk ((by rw [hg];exact (yQ (by repeat (first|(with_reducible first|exact HB.out|apply yA|apply yB|apply yC)|exact HB.out))):w.heap.size≤gb414));have n3_:=Aside0.mk ((by rw [hg];exact (yQ (by repeat (first|(with_reducible first|exact HB.out|apply yA|apply yB|apply yC)|exact HB.out))):w.heap.size≤gb414));clear HB;have HB:=n0_;have BK414:=n1_;have GW414:=n2_;have GE414:=n3_;clear n0_ n1_ n2_ n3_;clear hb hbox hg)|((with_reducible refine gate_dst (N:=2) rfl ?_);refine box_event ?hg (N:=2) ?hd (cs:=#[.slice none 0 0,.slice none 0 0]) (t:=50) ?hr ?_;(case hd=>rfl);(case hg=>rfl);(case hr=>first|(go_simp;done)|(go_simp;rfl));intro gb415 hg w4 hbox hb;have n0_:=Aside0.mk (blk_below (g:=gb414) (o:=.cells #[.slice A0_0 l0_0.length c0_0,.int .i64 a0_1,.int .i64 a0_2] 31 (0,0)) (by (with_reducible repeat (first|refine yE ?_ _|refine yF ?_|refine yG ?_ _));exact BK414.out) hb);have n1_:=Aside0.mk (yP (by repeat (first|(with_reducible first|exact HB.out|apply yA|apply yB|apply yC|refine yD ?_ GE414.out)|exact HB.out)) hb);have n2_:=Aside0.mk (hbox);have n3_:=Aside0.mk ((by rw [hg];exact (yQ (by repeat (first|(with_reducible first|exact HB.out|apply yA|apply yB|apply yC|refine yD ?_ GE414.out)|exact HB.out))):w.heap.size≤gb415));have n4_:=Aside0.mk ((by rw [hg];exact (yQ (by repeat (first|(with_reducible first|exact HB.out|apply yA|apply yB|apply yC|refine yD ?_ GE414.out)|exact HB.out))):w.heap.size≤gb415));have n5_:=Aside0.mk ((by rw [hg];exact Nat.ne_of_lt (blk_lt (g:=gb414) (o:=.cells #[.slice A0_0 l0_0.length c0_0,.int .i64 a0_1,.int .i64 a0_2] 31 (0,0)) (by (with_reducible repeat (first|refine yE ?_ _|refine yF ?_|refine yG ?_ _));exact BK414.out)):gb414≠gb415));have n6_:=Aside0.mk ((by rw [hg];exact Nat.ne_of_gt (blk_lt (g:=gb414) (o:=.cells #[.slice A0_0 l0_0.length c0_0,.int .i64 a0_1,.int .i64 a0_2] 31 (0,0)) (by (with_reducible repeat (first|refine yE ?_ _|refine yF ?_|refine yG ?_ _));exact BK414.out)):gb415≠gb414));clear BK414;clear HB;have BK414:=n0_;have HB:=n1_;have BK415:=n2_;have GW415:=n3_;have GE415:=n4_;have NB414_415:=n5_;have NB415_414:=n6_;clear n0_ n1_ n2_ n3_ n4_ n5_ n6_;clear hb hbox hg;have hnb5:=NB414_415.out;have hnc5:=NB415_414.out;have hcz6_0:w4.cell? ⟨gb414,0,none⟩=some (.slice A0_0 l0_0.length c0_0):=(blk_cell BK414.out 0).trans rfl;have hcz6_1:w4.cell? ⟨gb414,1,none⟩=some (.int .i64 a0_1):=(blk_cell BK414.out 1).trans rfl;have hcz6_2:w4.cell? ⟨gb414,2,none⟩=some (.int .i64 a0_2):=(blk_cell BK414.out 2).trans rfl;have hfz6_0:=blk_frozen BK414.out 0;have hfz6_1:=blk_frozen BK414.out 1;have hfz6_2:=blk_frozen BK414.out 2)|((with_reducible refine gate_callee (f:=58) rfl ?_);refine goesL_ (some 9) rfl rfl Try.func58 (by kernel_rfl) rfl #[.agg #[.slice A0_0 l0_0.length c0_0,.int .i64 a0_1,.int .i64 a0_2]] rfl (by (try simp only [List.map_toArray,List.map_cons,List.map_nil]);first|done|rfl|(simp only [List.length_drop,List.length_take];rfl)) ?_;(with_reducible refine (spec_l6mShape.calls k _ _ l0_0 a0_1 a0_2 t416 t419 _ ?side1 ?side2 A2.out).mono ?_);(case side1=>repeat (first|exact (Kd.C_below HR0_0.out HB.out)|(with_reducible refine Kd.C_alloc ?_ _)|(with_reducible refine Kd.C_drewN ?_ _)|(with_reducible refine Kd.C_drew ?_)));(case side2=>exact HC0_0.out);rintro e w7 ⟨v417,rfl,ho0,hb⟩;refine ⟨_,rfl,?_⟩;have n0_:=Aside0.mk (Kd.R_lower (Kd.R_newM (M:=fun k_=>(w.heap.size≤k_)) ho0 (yQ (by repeat (first|(with_reducible first|exact HB.out|apply yA|apply yB|apply yC|refine yD ?_ GE414.out|refine yD ?_ GE415.out)|exact HB.out))) (fun k_ h_=>h_)) (yQ (by repeat (first|(with_reducible first|exact HB.out|apply yA|apply yB|apply yC|refine yD ?_ GE414.out|refine yD ?_ GE415.out)|exact HB.out))));have n1_:=Aside0.mk (blk_below (g:=gb414) (o:=.cells #[.slice A0_0 l0_0.length c0_0,.int .i64 a0_1,.int .i64 a0_2] 31 (0,0)) (by (with_reducible repeat (first|refine yE ?_ _|refine yF ?_|refine yG ?_ _));exact BK414.out) hb);have n2_:=Aside0.mk (blk_below (g:=gb415) (o:=.cells #[.slice none 0 0,.slice none 0 0] 50 (0,0)) (by (with_reducible repeat (first|refine yE ?_ _|refine yF ?_|refine yG ?_ _));exact BK415.out) hb);have n3_:=Aside0.mk (yP (by repeat (first|(with_reducible first|exact HB.out|apply yA|apply yB|apply yC|refine yD ?_ GE414.out|refine yD ?_ GE415.out)|exact HB.out)) hb);clear BK414;clear BK415;clear HB;have HO418:=n0_;have BK414:=n1_;have BK415:=n2_;have HB:=n3_;clear n0_ n1_ n2_ n3_;(try clear hb);(try clear hb2);(try clear hk);(try clear hi);(try clear ho0))|((with_reducible refine gate_dst (N:=12) rfl ?_);refine Kd.R_lit Kd.bool _ 4 ?hg (N:=12) ?hd (xs:=([]:List Bool)) (inner:=[]) (ok:=fun _=>True) (okp:=fun _=>True) ?hr ?hp (fun _ hk=>hk) trivial (Below.refl _ _) (Nat.le_refl _) (by simp) ?_;(case hd=>rfl);(case hg=>rfl);(case hr=>first|(go_simp;done)|(go_simp;rfl));(case hp=>exact (Reps.none _ _));intro v421 w8 ho9 hb hg_ hnew_;clear hg_ hnew_;(first|rw [← Ny420.out] at ho9|(simp only [Int.reduceToNat] at ho9;rw [← Ny420.out] at ho9));have n0_:=Aside0.mk (Kd.R_below (by (with_reducible repeat (first|apply yH|apply yI|apply yJ));exact HO418.out) hb);have n1_:=Aside0.mk (Kd.R_lower (Kd.R_newM (M:=fun k_=>(w.heap.size≤k_)) ho9 (yQ (by repeat (first|(with_reducible first|exact HB.out|apply yA|apply yB|apply yC|refine yD ?_ GE414.out|refine yD ?_ GE415.out)|exact HB.out))) (fun k_ h_=>h_)) (yQ (by repeat (first|(with_reducible first|exact HB.out|apply yA|apply yB|apply yC|refine yD ?_ GE414.out|refine yD ?_ GE415.out)|exact HB.out))));have n2_:=Aside0.mk (blk_below (g:=gb414) (o:=.cells #[.slice A0_0 l0_0.length c0_0,.int .i64 a0_1,.int .i64 a0_2] 31 (0,0)) (by (with_reducible repeat (first|refine yE ?_ _|refine yF ?_|refine yG ?_ _));exact BK414.out) hb);have n3_:=Aside0.mk (blk_below (g:=gb415) (o:=.cells #[.slice none 0 0,.slice none 0 0] 50 (0,0)) (by (with_reducible repeat (first|refine yE ?_ _|refine yF ?_|refine yG ?_ _));exact BK415.out) hb);have n4_:=Aside0.mk (yP (by repeat (first|(with_reducible first|exact HB.out|apply yA|apply yB|apply yC|refine yD ?_ GE414.out|refine yD ?_ GE415.out)|exact HB.out)) hb);clear HO418;clear BK414;clear BK415;clear HB;have HO418:=n0_;have HO422:=n1_;have BK414:=n2_;have BK415:=n3_;have HB:=n4_;clear n0_ n1_ n2_ n3_ n4_;clear hb ho9))
 go_loopg [5,6] k (fun kq v5 v6 w'=>∃ (x5_1:List Bool) (x6_1:Int),v6=.int .i64 x6_1∧Aside0 (spec_l6mSet.l0 kq t416 t419 x5_1 x6_1 l0_0 a0_1 a0_2=some (r1,r2))∧Aside0 (kq≤k)∧Aside0 (Kd.R (Kd.int .i64) 3 w' w.heap.size (fun k_=>(w.heap.size≤k_)) v417 t416)∧Aside0 (Kd.R Kd.bool 4 w' w.heap.size (fun k_=>(w.heap.size≤k_)) v5 x5_1)∧Aside0 (w'.heap[gb414]?=some (.cells #[(.slice A0_0 l0_0.length c0_0),.int .i64 a0_1,.int .i64 a0_2] 31 (0,0)))∧Aside0 (w'.heap[gb415]?=some (.cells #[(.slice none 0 0),(.slice none 0 0)] 50 (0,0)))∧Aside0 (Below w.heap.size w w'))
 case atStart=>exact ⟨(y420),(0),(by first|rfl|(simp;done)|(simp [*];done)|(simp [Int.tmod_eq_emod_of_nonneg];done)),H',⟨Nat.le_refl _⟩,⟨by (with_reducible repeat (first|apply yH|apply yI|apply yJ));exact Kd.R_mono HO418.out (fun _ hk=>hk.1)⟩,⟨by (with_reducible repeat (first|apply yH|apply yI|apply yJ));exact Kd.R_mono HO422.out (fun _ hk=>hk.1)⟩,⟨by (with_reducible repeat (first|refine yE ?_ _|refine yF ?_|refine yG ?_ _));exact BK414.out⟩,⟨by (with_reducible repeat (first|refine yE ?_ _|refine yF ?_|refine yG ?_ _));exact BK415.out⟩,⟨by repeat (first|(with_reducible first|exact HB.out|apply yA|apply yB|apply yC|refine yD ?_ GE414.out|refine yD ?_ GE415.out)|exact HB.out)⟩⟩
 case round =>
  clear H'
  try clear p2
  try clear c3
  try clear c5
  try clear hcz6_0
  try clear hcz6_1
  try clear hcz6_2
  try clear hfz6_0
  try clear hfz6_1
  try clear hfz6_2
  obtain ⟨x5_1,x6_1,rfl,HA,HK1,HO_3,HO_5,BK414,BK415,HB⟩:=hrel
  cases gk with
  | zero=>exact absurd HA.out (by simp [spec_l6mSet.l0])
  | succ k1 =>
   have H:=HA.out
   clear HA
   simp only [spec_l6mSet.l0] at H
   by_cases c10:x6_1<(t416.length:Int)
   ·rw [if_pos c10] at H
    have c10b0:decide (x6_1<(t416.length:Int))=true:=decide_eq_true c10
    clear c10
    by_cases c11:0≤x6_1
    ·rw [if_pos c11] at H
     have c11b0:decide (0≤x6_1)=true:=decide_eq_true c11
     clear c11
     by_cases c12:x5_1.length<140737488355328
     ·rw [if_pos c12] at H
      have LMc12:=Aside0.mk c12
      clear c12
      obtain ⟨y424,hy424⟩:∃ y_:List Bool,y_=(x5_1++[((Go.bits .and .i64 (rd t416 x6_1) a0_2) != 0)]):=⟨_,rfl⟩
      replace H:(spec_l6mSet.l0 k1 t416 t419 y424 (wrap64 (x6_1+1)) l0_0 a0_1 a0_2)=some (r1,r2):=by first|(rw [hy424];with_reducible exact H)|(have H2_:=(Option.bind_some _ _).symm.trans H;rw [hy424];with_reducible exact H2_)|(have H2_:=(Option.bind_some _ _).symm.trans H;with_reducible exact H2_)|with_reducible exact H|(rw [hy424];exact H)|exact H
      have Ny424:=Aside0.mk hy424
      clear hy424
      have H':=Aside0.mk H
      clear H
      obtain ⟨Ao13,co13,eo13⟩:=Kd.R_slice HO_3.out
      subst eo13
      try go_wp2
      have n0_:=Aside0.mk (yJ HO_3.out)
      have n1_:=Aside0.mk (yJ HO_5.out)
      have n2_:=Aside0.mk (yF BK414.out)
      have n3_:=Aside0.mk (yF BK415.out)
      have n4_:=Aside0.mk (yC HB.out)
      clear HO_3
      clear HO_5
      clear BK414
      clear BK415
      clear HB
      have HO_3:=n0_
      have HO_5:=n1_
      have BK414:=n2_
      have BK415:=n3_
      have HB:=n4_
      clear n0_ n1_ n2_ n3_ n4_
      have p423:0≤(x6_1:Int):=of_decide_eq_true (by first|(with_reducible assumption)|assumption)
      have q423:x6_1<(t416.length:Int):=of_decide_eq_true (by first|(with_reducible assumption)|assumption)
      obtain ⟨ad423,e423,hx423_0⟩:=Kd.at_int (Kd.R_reads' HO_3.out).2.2 x6_1 p423 q423
      cases e423
      replace p423:=eq_true p423
      replace q423:=eq_true q423
      refine start_ (n:=12) (S:=fun w'=>w'.cell? ⟨gb414,0,none⟩=some (.slice A0_0 l0_0.length c0_0)∧w'.cell? ⟨gb414,1,none⟩=some (.int .i64 a0_1)∧w'.cell? ⟨gb414,2,none⟩=some (.int .i64 a0_2)∧w'.cell? (ad423.add (x6_1).toNat)=some (.int .i64 (rd t416 x6_1))) (ds:=[9,10]) #[false,false,false,false,false,false,false,false,false,false,false,false] (by kernel_rfl) rfl rfl ⟨(blk_cell BK414.out 0).trans rfl,(blk_cell BK414.out 1).trans rfl,(blk_cell BK414.out 2).trans rfl,hx423_0⟩ (fun hHeld=>?_);refine with_tabW spec_l6mSet.tab6 spec_l6mSet.bits6 (fun HT_ HW_=>?_)
      generalize wr.drew=w14 at HO_3 HO_5 BK414 BK415 HB hx423_0 hHeld ⊢
      refine pure_ (i:=0) (N:=some 19) (v:=?_) (a':=?_) #[true,false,false,false,false,false,false,false,false,false,false,false] rfl rfl (any_of HT_.out (by kernel_rfl)) (fun _ _ _ h=>h) (Or.inl ⟨by rfl,?_⟩) ?_ ?_
      rotate_left
      ·intro w'
       go_simp
       with_reducible rfl
      rotate_left
      ·simp only [Act.put,yK,yL,yM,i64_w,i32_w]
       rfl
      refine pure_ (i:=1) (N:=some 20) (v:=?_) (a':=?_) #[true,true,false,false,false,false,false,false,false,false,false,false] rfl rfl (any_of HT_.out (by kernel_rfl)) (fun _ _ _ h=>h) (Or.inl ⟨by rfl,?_⟩) ?_ ?_
      rotate_left
      ·intro w'
       go_simp
       with_reducible rfl
      rotate_left
      ·simp only [Act.put,yK,yL,yM,i64_w,i32_w]
       rfl
      refine pure_ (i:=2) (N:=some 21) (v:=?_) (a':=?_) #[true,true,true,false,false,false,false,false,false,false,false,false] rfl rfl (any_of HT_.out (by kernel_rfl)) (fun _ _ _ h=>h) (Or.inl ⟨by rfl,?_⟩) ?_ ?_
      rotate_left
      ·intro w'
       go_simp
       with_reducible rfl
      rotate_left
      ·simp only [Act.put,yK,yL,yM,i64_w,i32_w]
       rfl
      refine pure_ (i:=3) (N:=some 22) (v:=?_) (a':=?_) #[true,true,true,true,false,false,false,false,false,false,false,false] rfl rfl (any_of HT_.out (by kernel_rfl)) (fun _ _ _ h=>h) (Or.inl ⟨by rfl,?_⟩) ?_ ?_
      rotate_left
      ·intro w'
       go_simp
       with_reducible rfl
      rotate_left
      ·simp only [Act.put,yK,yL,yM,i64_w,i32_w]
       rfl
      refine pure_ (i:=5) (N:=some 24) (v:=?_) (a':=?_) #[true,true,true,true,false,true,false,false,false,false,false,false] rfl rfl (any_of HT_.out (by kernel_rfl)) (fun _ _ _ h=>h) (Or.inl ⟨by rfl,?_⟩) ?_ ?_
      rotate_left
      ·intro w'
       go_simp
       with_reducible rfl
      rotate_left
      ·simp only [Act.put,yK,yL,yM,i64_w,i32_w]
       rfl
      refine take_ (i:=4) (N:=some 23) (v:=?_) (a':=?_) #[true,true,true,true,true,true,false,false,false,false,false,false] rfl rfl (take_ofW HT_.out HW_.out (by kernel_rfl)) (fun _ _ _ h=>h) (Or.inl ⟨by rfl,?_⟩) hHeld ?_ ?_
      rotate_left
      ·rintro w' ⟨s0,s1,s2,s3⟩
       go_simp
       with_reducible rfl
      rotate_left
      ·simp only [Act.put,yK,yL,yM,i64_w,i32_w]
       rfl
      refine take_ (i:=6) (N:=some 25) (v:=?_) (a':=?_) #[true,true,true,true,true,true,true,false,false,false,false,false] rfl rfl (take_ofW HT_.out HW_.out (by kernel_rfl)) (fun _ _ _ h=>h) (Or.inl ⟨by rfl,?_⟩) hHeld ?_ ?_
      rotate_left
      ·rintro w' ⟨s0,s1,s2,s3⟩
       go_simp
       with_reducible rfl
      rotate_left
      ·simp only [Act.put,yK,yL,yM,i64_w,i32_w]
       rfl
      refine pure_ (i:=7) (N:=some 26) (v:=?_) (a':=?_) #[true,true,true,true,true,true,true,true,false,false,false,false] rfl rfl (any_of HT_.out (by kernel_rfl)) (fun _ _ _ h=>h) (Or.inl ⟨by rfl,?_⟩) ?_ ?_
      rotate_left
      ·intro w'
       go_simp
       with_reducible rfl
      rotate_left
      ·simp only [Act.put,yK,yL,yM,i64_w,i32_w]
       rfl
      refine pure_ (i:=8) (N:=some 27) (v:=?_) (a':=?_) #[true,true,true,true,true,true,true,true,true,false,false,false] rfl rfl (any_of HT_.out (by kernel_rfl)) (fun _ _ _ h=>h) (Or.inl ⟨by rfl,?_⟩) ?_ ?_
      rotate_left
      ·intro w'
       go_simp
       with_reducible rfl
      rotate_left
      ·simp only [Act.put,yK,yL,yM,i64_w,i32_w]
       rfl
      refine last_ (i:=9) (N:=some 28) #[true,true,true,true,true,true,true,true,true,true,false,false] rfl rfl (one_of HT_.out (by kernel_rfl)) (by decide) (fun K hK=>?_)
      refine value_ (w1:=?_) (v:=?_) (by rfl) rfl ?_ ?_
      rotate_left 2
      ·go_simp
       constructor
       ·rfl
       ·rfl
      refine hK.out _ _ ?_
      clear hK K
      refine norm_ (a':=?_) ?_ ?_
      rotate_left
      ·show Act.put _ (some 28) _=_
       simp only [Act.put,yK,yL,yM,i64_w,i32_w]
       rfl
      refine last_ (i:=10) (N:=some 29) #[true,true,true,true,true,true,true,true,true,true,true,false] rfl rfl (one_of HT_.out (by kernel_rfl)) (by decide) (fun K hK=>?_)
      refine Kd.R_append_step Kd.bool (w0:=w) w.heap.size (by rfl) (.tmp 19) (.tmp 28) 39 4 (.bool false) 1 rfl Try.underlying39 info4 rfl (by decide) (by omega) u5 x5_1 ((Go.bits .and .i64 (rd t416 x6_1) a0_2) != 0) [.bool ((Go.bits .and .i64 (rd t416 x6_1) a0_2) != 0)] (fun k_=>(w.heap.size≤k_)) (fun _=>False) rfl rfl ?aP (fun _ hk=>hk.elim) ?aF ?aO ?aB ?aS ?aL ?_
      (case aP=>exact rfl)
      (case aB=>exact (by repeat (first|(with_reducible first|exact HB.out|apply yA|apply yB|apply yC|refine yD ?_ GE414.out|refine yD ?_ GE415.out)|exact HB.out)))
      (case aF=>exact (fun k_ hk=>(Nat.le_trans (yQ (by repeat (first|(with_reducible first|exact HB.out|apply yA|apply yB|apply yC|refine yD ?_ GE414.out|refine yD ?_ GE415.out)|exact HB.out))) hk)))
      (case aO=>exact (by (with_reducible repeat (first|apply yH|apply yI|apply yJ));exact HO_5.out))
      (case aS=>exact (yQ (by repeat (first|(with_reducible first|exact HB.out|apply yA|apply yB|apply yC|refine yD ?_ GE414.out|refine yD ?_ GE415.out)|exact HB.out))))
      (case aL=>have:=LMc12.out;omega)
      intro v425 w15 ho hb hg hat
      rw [← Ny424.out] at ho
      have n0_:=Aside0.mk (Kd.R_over' (by (with_reducible repeat (first|apply yH|apply yI|apply yJ));exact HO_3.out) (Kd.R_typed (by (with_reducible repeat (first|apply yH|apply yI|apply yJ));exact HO_5.out)) (by decide) hg)
      have n1_:=Aside0.mk (blk_grown (g:=gb414) (o:=.cells #[.slice A0_0 l0_0.length c0_0,.int .i64 a0_1,.int .i64 a0_2] 31 (0,0)) (by (with_reducible repeat (first|refine yE ?_ _|refine yF ?_|refine yG ?_ _));exact BK414.out) hg (Kd.R_ne HO_5.out BK414.out (by decide)))
      have n2_:=Aside0.mk (blk_grown (g:=gb415) (o:=.cells #[.slice none 0 0,.slice none 0 0] 50 (0,0)) (by (with_reducible repeat (first|refine yE ?_ _|refine yF ?_|refine yG ?_ _));exact BK415.out) hg (Kd.R_ne HO_5.out BK415.out (by decide)))
      have n3_:=Aside0.mk (hb)
      have n4_:=Aside0.mk (ho)
      clear HO_3
      clear BK414
      clear BK415
      clear HB
      clear HO_5
      have HO_3:=n0_
      have BK414:=n1_
      have BK415:=n2_
      have HB:=n3_
      have HO426:=n4_
      clear n0_ n1_ n2_ n3_ n4_
      clear ho hb hg hat
      refine hK.out _ _ ?_
      clear hK K
      refine norm_ (a':=?_) ?_ ?_
      rotate_left
      ·show Act.put _ (some 29) _=_
       simp only [Act.put,yK,yL,yM,i64_w,i32_w]
       rfl
      refine pure_ (i:=11) (N:=some 5) (v:=?_) (a':=?_) #[true,true,true,true,true,true,true,true,true,true,true,true] rfl rfl (any_of HT_.out (by kernel_rfl)) (fun _ _ _ h=>h) (Or.inl ⟨by rfl,?_⟩) ?_ ?_
      rotate_left
      ·intro w'
       go_simp
       with_reducible rfl
      rotate_left
      ·simp only [Act.put,yK,yL,yM,i64_w,i32_w]
       rfl
      refine done_ (done_of HT_.out (by kernel_rfl)) ?_
      try go_wp2
      go_roundg k1
      case measure=>have:=HK1.out;omega
      case rel=>exact ⟨(y424),(wrap64 (x6_1+1)),(by first|rfl|(simp;done)|(simp [*];done)|(simp [Int.tmod_eq_emod_of_nonneg];done)),H',⟨by have:=HK1.out;omega⟩,⟨by (with_reducible repeat (first|apply yH|apply yI|apply yJ));exact HO_3.out⟩,⟨by (with_reducible repeat (first|apply yH|apply yI|apply yJ));exact HO426.out⟩,⟨by (with_reducible repeat (first|refine yE ?_ _|refine yF ?_|refine yG ?_ _));exact BK414.out⟩,⟨by (with_reducible repeat (first|refine yE ?_ _|refine yF ?_|refine yG ?_ _));exact BK415.out⟩,⟨by repeat (first|(with_reducible first|exact HB.out|apply yA|apply yB|apply yC|refine yD ?_ GE414.out|refine yD ?_ GE415.out)|exact HB.out)⟩⟩
     ·rw [if_neg c12] at H
      exact absurd H (by simp)
    ·rw [if_neg c11] at H
     exact absurd H (by simp)
   ·rw [if_neg c10] at H
    have c10b0:decide (x6_1<(t416.length:Int))=false:=decide_eq_false c10
    clear c10
    by_cases c16:0≤t419
    ·rw [if_pos c16] at H
     have c16b0:=eq_true c16
     have c16b1:decide (0≤t419)=true:=decide_eq_true c16
     clear c16
     by_cases c17:t419≤(x5_1.length:Int)
     ·rw [if_pos c17] at H
      have c17b0:=eq_true c17
      have c17b1:decide (t419≤(x5_1.length:Int))=true:=decide_eq_true c17
      clear c17
      obtain ⟨y427,hy427⟩:∃ y_:List Bool,y_=(x5_1.take (t419:Int).toNat):=⟨_,rfl⟩
      replace H:((spec_l1Less.f k1 y427 (x5_1.drop (t419:Int).toNat)).bind fun bt437=>(some (bt437.1,bt437.2)))=some (r1,r2):=by first|(rw [hy427];with_reducible exact H)|(have H2_:=(Option.bind_some _ _).symm.trans H;rw [hy427];with_reducible exact H2_)|(have H2_:=(Option.bind_some _ _).symm.trans H;with_reducible exact H2_)|with_reducible exact H|(rw [hy427];exact H)|exact H
      have Ny427:=Aside0.mk hy427
      clear hy427
      have c18b0:=eq_true (of_decide_eq_true (by first|(with_reducible assumption)|assumption):0≤t419)
      have c19b0:=eq_true (of_decide_eq_true (by first|(with_reducible assumption)|assumption):t419≤(x5_1.length:Int))
      obtain ⟨y432,hy432⟩:∃ y_:List Bool,y_=(x5_1.drop (t419:Int).toNat):=⟨_,rfl⟩
      replace H:((spec_l1Less.f k1 y427 y432).bind fun bt437=>(some (bt437.1,bt437.2)))=some (r1,r2):=by first|(rw [hy432];with_reducible exact H)|(have H2_:=(Option.bind_some _ _).symm.trans H;rw [hy432];with_reducible exact H2_)|(have H2_:=(Option.bind_some _ _).symm.trans H;with_reducible exact H2_)|with_reducible exact H|(rw [hy432];exact H)|exact H
      have Ny432:=Aside0.mk hy432
      clear hy432
      replace H:=Option.bind_eq_some_iff.mp H
      obtain ⟨⟨t437,t440⟩,A200,H⟩:=H
      replace H:(some (t437,t440))=some (r1,r2):=H
      have A20:=Aside0.mk A200
      clear A200
      simp only [Option.some.injEq,Prod.mk.injEq] at H
      obtain ⟨rfl,rfl⟩:=H
      obtain ⟨Ao21,co21,eo21⟩:=Kd.R_slice HO_3.out
      subst eo21
      try go_wp2
      have n0_:=Aside0.mk (yJ HO_3.out)
      have n1_:=Aside0.mk (yJ HO_5.out)
      have n2_:=Aside0.mk (yF BK414.out)
      have n3_:=Aside0.mk (yF BK415.out)
      have n4_:=Aside0.mk (yC HB.out)
      clear HO_3
      clear HO_5
      clear BK414
      clear BK415
      clear HB
      have HO_3:=n0_
      have HO_5:=n1_
      have BK414:=n2_
      have BK415:=n3_
      have HB:=n4_
      clear n0_ n1_ n2_ n3_ n4_
      obtain ⟨Ao24,co24,eo24⟩:=Kd.R_slice HO_5.out
      (first|subst eo24|(injection eo24 with f1_ f2_ f3_;have f4_:=f1_.symm;have f5_:=f3_.symm;clear f1_ f2_ f3_;subst f4_;subst f5_))
      have q23:(t419:Int)≤((x5_1.length:Int):Int):=of_decide_eq_true (by first|(with_reducible assumption)|assumption)
      obtain ⟨i023,hi023,_,hsz23,_⟩:=info_parts info4
      have hroom23:x5_1.length≤co24:=(Kd.R_reads' HO_5.out).2.1
      have hC23:Kd.F Kd.bool _ _ Ao24 x5_1.length x5_1:=(Kd.V_at (base:=w.heap.size) (Kd.R_V (Kd.R_types (Kd.R_types (Kd.R_apart' (HO_5.out) (Kd.R_typed HO_3.out) (by decide)) BK414.out (by decide)) BK415.out (by decide)))).2.2
      have hcut23:=cut_to (P:=Try.prog) 39 4 .i64 Try.underlying39 hi023 Ao24 x5_1.length co24 t419 (of_decide_eq_true (by first|(with_reducible assumption)|assumption)) q23 hroom23
      have hr23:=Kd.F_take (m:=(t419:Int).toNat) hC23 (by omega)
      have hy23:y427.length=(t419:Int).toNat:=(by rw [Ny427.out,List.length_take];omega)
      rw [← Ny427.out] at hr23
      rw [← hy23] at hcut23
      have HO431:=Aside0.mk (show Kd.V Kd.bool 4 _ w.heap.size _ (.slice Ao24 y427.length co24) y427 from Kd.V_mk (by omega) hr23)
      have HC431:=Aside0.mk (show y427.length≤co24 from by omega)
      clear hr23 hC23 hroom23 hi023 hsz23
      have KY23:=Aside0.mk hy23
      clear hy23
      replace q23:=eq_true q23
      have q25:(t419:Int)≤((x5_1.length:Int):Int):=of_decide_eq_true (by first|(with_reducible assumption)|assumption)
      obtain ⟨i025,hi025,_,hsz25,_⟩:=info_parts info4
      have hroom25:x5_1.length≤co24:=(Kd.R_reads' HO_5.out).2.1
      have hC25:Kd.F Kd.bool _ _ Ao24 x5_1.length x5_1:=(Kd.V_at (base:=w.heap.size) (Kd.R_V (Kd.R_types (Kd.R_types (Kd.R_apart' (HO_5.out) (Kd.R_typed HO_3.out) (by decide)) BK414.out (by decide)) BK415.out (by decide)))).2.2
      have q025:(0:Int)≤(t419:Int):=of_decide_eq_true (by first|(with_reducible assumption)|assumption)
      have hcut25:=cut_from (P:=Try.prog) 39 4 .i64 Try.underlying39 hi025 1 hsz25 Ao24 x5_1.length co24 t419 q025 q25
      have hr25:=Kd.F_cut (m:=(t419:Int).toNat) (c:=co24) hC25 (by omega) hroom25
      obtain ⟨A25,hA25⟩:∃ A1,A1=(if co24=(t419:Int).toNat then Ao24 else (Ao24:Option Addr).map (·.add ((t419:Int).toNat * 1))):=⟨_,rfl⟩
      obtain ⟨c25,hc25⟩:∃ c1,c1=co24 - (t419:Int).toNat:=⟨_,rfl⟩
      have hy25:y432.length=x5_1.length - (t419:Int).toNat:=(by rw [Ny432.out,List.length_drop]<;>omega)
      rw [show (x5_1).drop (t419:Int).toNat=y432 from Ny432.out.symm] at hr25
      replace hr25:Kd.F Kd.bool _ _ A25 y432.length y432:=(by rw [hA25];exact hr25)
      rw [← hy25,← hA25,← hc25] at hcut25
      have HO436:=Aside0.mk (show Kd.V Kd.bool 4 _ w.heap.size _ (.slice A25 y432.length c25) y432 from Kd.V_mk (by rw [hy25,hc25];exact Nat.sub_le_sub_right hroom25 _) hr25)
      have HC436:=Aside0.mk (show y432.length≤c25 from by rw [hy25,hc25];exact Nat.sub_le_sub_right hroom25 _)
      clear hr25 hC25 hroom25 hi025 hsz25 hc25
      have KY25:=Aside0.mk hy25
      have KA25:=Aside0.mk hA25
      clear hy25 hA25
      replace q25:=eq_true q25
      refine start_ (n:=9) (S:=fun w'=>True) (ds:=[]) #[false,false,false,false,false,false,false,false,false] (by kernel_rfl) rfl rfl trivial (fun hHeld=>?_);refine with_tabW spec_l6mSet.tab7 spec_l6mSet.bits7 (fun HT_ HW_=>?_)
      generalize wr.drew=w22 at HO_3 HO_5 BK414 BK415 HB HO431 HO436 hHeld ⊢
      refine pure_ (i:=0) (N:=some 30) (v:=?_) (a':=?_) #[true,false,false,false,false,false,false,false,false] rfl rfl (any_of HT_.out (by kernel_rfl)) (fun _ _ _ h=>h) (Or.inl ⟨by rfl,?_⟩) ?_ ?_
      rotate_left
      ·intro w'
       go_simp
       with_reducible rfl
      rotate_left
      ·simp only [Act.put,yK,yL,yM,i64_w,i32_w]
       rfl
      refine pure_ (i:=1) (N:=some 31) (v:=?_) (a':=?_) #[true,true,false,false,false,false,false,false,false] rfl rfl (any_of HT_.out (by kernel_rfl)) (fun _ _ _ h=>h) (Or.inl ⟨by rfl,?_⟩) ?_ ?_
      rotate_left
      ·intro w'
       go_simp
       with_reducible rfl
      rotate_left
      ·simp only [Act.put,yK,yL,yM,i64_w,i32_w]
       rfl
      refine pure_ (i:=2) (N:=some 32) (v:=?_) (a':=?_) #[true,true,true,false,false,false,false,false,false] rfl rfl (any_of HT_.out (by kernel_rfl)) (fun _ _ _ h=>h) (Or.inl ⟨by rfl,?_⟩) ?_ ?_
      rotate_left
      ·intro w'
       go_simp
       with_reducible rfl
      rotate_left
      ·simp only [Act.put,yK,yL,yM,i64_w,i32_w]
       rfl
      refine pure_ (i:=3) (N:=some 33) (v:=?_) (a':=?_) #[true,true,true,true,false,false,false,false,false] rfl rfl (any_of HT_.out (by kernel_rfl)) (fun _ _ _ h=>h) (Or.inl ⟨by rfl,?_⟩) ?_ ?_
      rotate_left
      ·intro w'
       go_simp
       with_reducible rfl
      rotate_left
      ·simp only [Act.put,yK,yL,yM,i64_w,i32_w]
       rfl
      refine pure_ (i:=4) (N:=some 34) (v:=?_) (a':=?_) #[true,true,true,true,true,false,false,false,false] rfl rfl (any_of HT_.out (by kernel_rfl)) (fun _ _ _ h=>h) (Or.inl ⟨by rfl,?_⟩) ?_ ?_
      rotate_left
      ·intro w'
       go_simp
       with_reducible rfl
      rotate_left
      ·simp only [Act.put,yK,yL,yM,i64_w,i32_w]
       rfl
      refine pure_ (i:=5) (N:=some 35) (v:=?_) (a':=?_) #[true,true,true,true,true,true,false,false,false] rfl rfl (any_of HT_.out (by kernel_rfl)) (fun _ _ _ h=>h) (Or.inl ⟨by rfl,?_⟩) ?_ ?_
      rotate_left
      ·intro w'
       go_simp
       with_reducible rfl
      rotate_left
      ·simp only [Act.put,yK,yL,yM,i64_w,i32_w]
       rfl
      refine pure_ (i:=6) (N:=some 36) (v:=?_) (a':=?_) #[true,true,true,true,true,true,true,false,false] rfl rfl (any_of HT_.out (by kernel_rfl)) (fun _ _ _ h=>h) (Or.inl ⟨by rfl,?_⟩) ?_ ?_
      rotate_left
      ·intro w'
       go_simp
       with_reducible rfl
      rotate_left
      ·simp only [Act.put,yK,yL,yM,i64_w,i32_w]
       rfl
      refine one_ (i:=7) (N:=some 37) #[true,true,true,true,true,true,true,true,false] rfl rfl (one_of HT_.out (by kernel_rfl)) (by decide) (fun K hK=>?_)
      refine goes_ Try.func51 (by kernel_rfl) rfl #[.agg #[.slice Ao24 y427.length co24,.slice A25 y432.length c25]] (by rfl) rfl rfl (by (try simp only [List.map_toArray,List.map_cons,List.map_nil]);first|done|rfl|(simp only [List.length_drop,List.length_take];rfl)) ?_
      with_reducible refine (spec_l1Less.calls k1 (fun k_=>((((w.heap.size≤k_)∧some k_≠(.slice Ao21 t416.length co21:Value).ownBlock)∧k_≠gb414)∧k_≠gb415)) _ _ y427 (fun k_=>((((w.heap.size≤k_)∧some k_≠(.slice Ao21 t416.length co21:Value).ownBlock)∧k_≠gb414)∧k_≠gb415)) _ _ y432 t437 t440 _ ?side1 ?side2 A20.out).mono ?_
      (case side1=>exact HO431.out)
      (case side2=>exact HO436.out)
      rintro e w26 ⟨v438,v441,rfl,ho0,ho1,hb⟩
      refine ⟨_,rfl,?_⟩
      have n0_:=Aside0.mk (Kd.R_below (by (with_reducible repeat (first|apply yH|apply yI|apply yJ));exact HO_3.out) hb)
      have n1_:=Aside0.mk (Kd.R_below (by (with_reducible repeat (first|apply yH|apply yI|apply yJ));exact HO_5.out) hb)
      have n2_:=Aside0.mk (Kd.V_below (by (with_reducible repeat (first|apply Kd.V_alloc|apply Kd.V_drewN|apply Kd.V_drew));exact HO431.out) hb)
      have n3_:=Aside0.mk (Kd.V_below (by (with_reducible repeat (first|apply Kd.V_alloc|apply Kd.V_drewN|apply Kd.V_drew));exact HO436.out) hb)
      have n4_:=Aside0.mk (Kd.V_lower (Kd.V_mono (ok':=fun k_=>(w.heap.size≤k_)∧some k_≠(.slice Ao21 t416.length co21:Value).ownBlock∧k_≠gb414∧k_≠gb415) ho0 (fun k_ hk_=>⟨Or.elim hk_ (fun hs_=>Or.elim hs_ (fun hs_=>hs_.1.1.1) (fun hs_=>hs_.1.1.1)) (fun hn_=>(Nat.le_trans (yQ (by repeat (first|(with_reducible first|exact HB.out|apply yA|apply yB|apply yC|refine yD ?_ GE414.out|refine yD ?_ GE415.out)|exact HB.out))) hn_)),Or.elim hk_ (fun hs_=>Or.elim hs_ (fun hs_=>hs_.1.1.2) (fun hs_=>hs_.1.1.2)) (fun hn_=>(Kd.fresh' (Kd.R_lt (by (with_reducible repeat (first|apply yH|apply yI|apply yJ));exact HO_3.out)) k_ hn_)),Or.elim hk_ (fun hs_=>Or.elim hs_ (fun hs_=>hs_.1.2) (fun hs_=>hs_.1.2)) (fun hn_=>(Kd.freshB (g:=gb414) (o:=.cells #[.slice A0_0 l0_0.length c0_0,.int .i64 a0_1,.int .i64 a0_2] 31 (0,0)) (by (with_reducible repeat (first|refine yE ?_ _|refine yF ?_|refine yG ?_ _));exact BK414.out) k_ hn_)),Or.elim hk_ (fun hs_=>Or.elim hs_ (fun hs_=>hs_.2) (fun hs_=>hs_.2)) (fun hn_=>(Kd.freshB (g:=gb415) (o:=.cells #[.slice none 0 0,.slice none 0 0] 50 (0,0)) (by (with_reducible repeat (first|refine yE ?_ _|refine yF ?_|refine yG ?_ _));exact BK415.out) k_ hn_))⟩)) (yQ (by repeat (first|(with_reducible first|exact HB.out|apply yA|apply yB|apply yC|refine yD ?_ GE414.out|refine yD ?_ GE415.out)|exact HB.out))))
      have n5_:=Aside0.mk (Kd.V_lower (Kd.V_mono (ok':=fun k_=>(w.heap.size≤k_)∧some k_≠(.slice Ao21 t416.length co21:Value).ownBlock∧k_≠gb414∧k_≠gb415) ho1 (fun k_ hk_=>⟨Or.elim hk_ (fun hs_=>Or.elim hs_ (fun hs_=>hs_.1.1.1) (fun hs_=>hs_.1.1.1)) (fun hn_=>(Nat.le_trans (yQ (by repeat (first|(with_reducible first|exact HB.out|apply yA|apply yB|apply yC|refine yD ?_ GE414.out|refine yD ?_ GE415.out)|exact HB.out))) hn_)),Or.elim hk_ (fun hs_=>Or.elim hs_ (fun hs_=>hs_.1.1.2) (fun hs_=>hs_.1.1.2)) (fun hn_=>(Kd.fresh' (Kd.R_lt (by (with_reducible repeat (first|apply yH|apply yI|apply yJ));exact HO_3.out)) k_ hn_)),Or.elim hk_ (fun hs_=>Or.elim hs_ (fun hs_=>hs_.1.2) (fun hs_=>hs_.1.2)) (fun hn_=>(Kd.freshB (g:=gb414) (o:=.cells #[.slice A0_0 l0_0.length c0_0,.int .i64 a0_1,.int .i64 a0_2] 31 (0,0)) (by (with_reducible repeat (first|refine yE ?_ _|refine yF ?_|refine yG ?_ _));exact BK414.out) k_ hn_)),Or.elim hk_ (fun hs_=>Or.elim hs_ (fun hs_=>hs_.2) (fun hs_=>hs_.2)) (fun hn_=>(Kd.freshB (g:=gb415) (o:=.cells #[.slice none 0 0,.slice none 0 0] 50 (0,0)) (by (with_reducible repeat (first|refine yE ?_ _|refine yF ?_|refine yG ?_ _));exact BK415.out) k_ hn_))⟩)) (yQ (by repeat (first|(with_reducible first|exact HB.out|apply yA|apply yB|apply yC|refine yD ?_ GE414.out|refine yD ?_ GE415.out)|exact HB.out))))
      have n6_:=Aside0.mk (blk_below (g:=gb414) (o:=.cells #[.slice A0_0 l0_0.length c0_0,.int .i64 a0_1,.int .i64 a0_2] 31 (0,0)) (by (with_reducible repeat (first|refine yE ?_ _|refine yF ?_|refine yG ?_ _));exact BK414.out) hb)
      have n7_:=Aside0.mk (blk_below (g:=gb415) (o:=.cells #[.slice none 0 0,.slice none 0 0] 50 (0,0)) (by (with_reducible repeat (first|refine yE ?_ _|refine yF ?_|refine yG ?_ _));exact BK415.out) hb)
      have n8_:=Aside0.mk (yP (by repeat (first|(with_reducible first|exact HB.out|apply yA|apply yB|apply yC|refine yD ?_ GE414.out|refine yD ?_ GE415.out)|exact HB.out)) hb)
      clear HO_3
      clear HO_5
      clear HO431
      clear HO436
      clear BK414
      clear BK415
      clear HB
      have HO_3:=n0_
      have HO_5:=n1_
      have HO431:=n2_
      have HO436:=n3_
      have HO439:=n4_
      have HO442:=n5_
      have BK414:=n6_
      have BK415:=n7_
      have HB:=n8_
      clear n0_ n1_ n2_ n3_ n4_ n5_ n6_ n7_ n8_
      (try clear hb)
      (try clear hb2)
      (try clear hk)
      (try clear hi)
      (try clear ho0)
      (try clear ho1)
      obtain ⟨Ao27,co27,eo27⟩:=Kd.V_slice HO439.out
      (first|subst eo27|(injection eo27 with f1_ f2_ f3_;have f4_:=f1_.symm;have f5_:=f3_.symm;clear f1_ f2_ f3_;subst f4_;subst f5_))
      obtain ⟨Ao29,co29,eo29⟩:=Kd.V_slice HO442.out
      (first|subst eo29|(injection eo29 with f1_ f2_ f3_;have f4_:=f1_.symm;have f5_:=f3_.symm;clear f1_ f2_ f3_;subst f4_;subst f5_))
      refine hK.out _ _ trivial (fun hHeld=>?_)
      clear hK K
      refine norm_ (a':=?_) ?_ ?_
      rotate_left
      ·show Act.put _ (some 37) _=_
       simp only [Act.put,yK,yL,yM,i64_w,i32_w]
       rfl
      refine one_ (i:=8) (N:=none) #[true,true,true,true,true,true,true,true,true] rfl rfl (one_of HT_.out (by kernel_rfl)) (by decide) (fun K hK=>?_)
      have hs28:w26.cell? ⟨gb415,0,none⟩=some (.slice none 0 0):=(blk_cell BK415.out 0).trans rfl
      have hfs28:=blk_frozen BK415.out 0
      have hns28_0:=NB414_415.out
      have hms28_0:=NB415_414.out
      have hs30:w26.cell? ⟨gb415,1,none⟩=some (.slice none 0 0):=(blk_cell BK415.out 1).trans rfl
      have hfs30:=blk_frozen BK415.out 1
      have hns30_0:=NB414_415.out
      have hms30_0:=NB415_414.out
      refine skip_ (w1:=?_) (by rfl) rfl ?_ ?_
      rotate_left
      ·go_simp
       rfl
      refine hK.out _ _ trivial (fun hHeld=>?_)
      clear hK K
      refine done_ (done_of HT_.out (by kernel_rfl)) ?_
      try go_wp2
      refine bodyPost_ret (results_cell_row rfl _ _ gb415 50 #[.slice Ao27 t437.length co27,.slice Ao29 t440.length co29] (0,0) _ rfl (by (with_reducible repeat (first|refine yE ?_ _|refine yF ?_|refine yG ?_ _));refine blk_put (cs:=#[.slice Ao27 t437.length co27,.slice none 0 0]) ?_ 1 _ rfl;(with_reducible repeat (first|refine yE ?_ _|refine yF ?_|refine yG ?_ _));refine blk_put (cs:=#[.slice none 0 0,.slice none 0 0]) ?_ 0 _ rfl;(with_reducible repeat (first|refine yE ?_ _|refine yF ?_|refine yG ?_ _));exact BK415.out) Try.underlying50 rfl (by kernel_rfl)) rfl ?_
      exact ⟨_,_,by first|rfl|(simp [errW_none,errW_some]<;>rfl)|(simp [*,errW_none,errW_some]<;>rfl)|(simp [errW_none,errW_some];exact ⟨rfl,rfl⟩),by (with_reducible repeat (first|apply Kd.V_alloc|apply Kd.V_drewN|apply Kd.V_drew));exact Kd.V_mono (Kd.V_far (p:=⟨gb415,1,none⟩) (Kd.V_far (p:=⟨gb415,0,none⟩) (Kd.V_mono HO439.out (fun k_ hk=>(⟨hk,hk.2.2.2⟩:_∧k_≠gb415))) (fun _ hk=>hk.2) (.slice Ao27 t437.length co27)) (fun _ hk=>hk.2) (.slice Ao29 t440.length co29)) (fun _ hk=>hk.1.1),by (with_reducible repeat (first|apply Kd.V_alloc|apply Kd.V_drewN|apply Kd.V_drew));exact Kd.V_mono (Kd.V_far (p:=⟨gb415,1,none⟩) (Kd.V_far (p:=⟨gb415,0,none⟩) (Kd.V_mono HO442.out (fun k_ hk=>(⟨hk,hk.2.2.2⟩:_∧k_≠gb415))) (fun _ hk=>hk.2) (.slice Ao27 t437.length co27)) (fun _ hk=>hk.2) (.slice Ao29 t440.length co29)) (fun _ hk=>hk.1.1),by repeat (first|(with_reducible first|exact HB.out|apply yA|apply yB|apply yC|refine yD ?_ GE414.out|refine yD ?_ GE415.out)|exact HB.out)⟩
     ·rw [if_neg c17] at H
      exact absurd H (by simp)
    ·rw [if_neg c16] at H
     exact absurd H (by simp)

end Go.Proofs.Ytgheopbdmijlkaa.P
