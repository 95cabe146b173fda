/- What these laws reach, joined by a program of this session: contracts (written by that program over the kit's print, or by hand) and plain lemmas. -/
import Derived.Test.YtneadgionjlicaaK1
open Go.Proofs.YtneadgionjlicaaW.PrintWords renaming below_alloc → yA, pw_below_drewN → yB, below_drew1 → yC, below_set → yD, blk_drewN → yE, blk_drew → yF, blk_alloc → yG, below_step → yP, below_size → yQ
open Go.Proofs.YtneadgionjlicaaW.PrintWords.Kd renaming R_alloc → yH, R_drewN → yI, R_drew → yJ
open List renaming setIfInBounds_toArray → yK, set_cons_zero → yL, set_cons_succ → yM
namespace Go.Proofs.Ytneadgionjlicaa.P
open Go.RowKit Go.Proofs.YtneadgionjlicaaW.PrintWords Go.Proofs.YtneadgionjlicaaW.PrintLast Go.Proofs.YtneadgionjlicaaW.PrintMore
attribute [local go_sem] max2_int min2_int max_two min_two max_three min_three max_four min_four   -- for this text's walks alone
set_option linter.unusedVariables false
set_option linter.unusedSimpArgs false

/-! ### spec_l1Less: function 61 -/
mutual
def spec_l1Less.l0:Nat→Int→Int→List Bool→List Bool→Option (List Bool × List Bool)
 | 0,_,_,_,_=>none
 | k+1,x3,x4,x242000,x242001=>if x4<x3 then (if x4=0 then (none) else (spec_l1Less.l1 k x3 x4 ((Int.tmod x3 x4) == 0) x4 x242000 x242001)) else (if (x242000.length:Int) > 0 then (if 0≤(wrap64 ((x242000.length:Int) - 1)) then (if (wrap64 ((x242000.length:Int) - 1))<(x242000.length:Int) then (if 0≤(wrap64 (x3 - 1)) then (if (wrap64 (x3 - 1))<(x242001.length:Int) then (if ((rdOf false x242000 (wrap64 ((x242000.length:Int) - 1))) == (rdOf false x242001 (wrap64 (x3 - 1))))=true then ((some (([rdOf false x242001 (wrap64 (x3 - 1))]:List Bool):List Bool)).bind fun y246=>(if (wrap64 (x3 - 1))≤(x242001.length:Int) then ((some (x242001.take ((wrap64 (x3 - 1)):Int).toNat:List Bool)).bind fun y249=>(if y246.length+y249.length<140737488355328 then (if (wrap64 ((x242000.length:Int) - 1))≤(x242000.length:Int) then ((spec_l1Less.f k (x242000.take ((wrap64 ((x242000.length:Int) - 1)):Int).toNat) (y246++y249)).bind fun bt262=>(some (bt262.1,bt262.2))) else (none)) else (none))) else (none))) else (some (x242000,x242001))) else (none)) else (none)) else (none)) else (none)) else (some (x242000,x242001)))
def spec_l1Less.l1:Nat→Int→Int→Bool→Int→List Bool→List Bool→Option (List Bool × List Bool)
 | 0,_,_,_,_,_,_=>none
 | k+1,x3,x4,x5,x6,x242000,x242001=>if x6<x3 then (if x5=true then (if 0≤x6 then (if x6<(x242001.length:Int) then (if 0≤(wrap64 (x6 - x4)) then (if (wrap64 (x6 - x4))<(x242001.length:Int) then (spec_l1Less.l1 k x3 x4 ((rdOf false x242001 x6) == (rdOf false x242001 (wrap64 (x6 - x4)))) (wrap64 (x6+1)) x242000 x242001) else (none)) else (none)) else (none)) else (none)) else (spec_l1Less.l0 k x3 (wrap64 (x4+1)) x242000 x242001)) else (if x5=true then (if 0≤x4 then (if x4≤(x242001.length:Int) then ((spec_l1Less.f k x242000 (x242001.take (x4:Int).toNat)).bind fun bt275=>(some (bt275.1,bt275.2))) else (none)) else (none)) else (spec_l1Less.l0 k x3 (wrap64 (x4+1)) x242000 x242001))
def spec_l1Less.f:Nat→List Bool→List Bool→Option (List Bool × List Bool)
 | 0,_,_=>none
 | k+1,l0_0,l0_1=>spec_l1Less.l0 k (l0_1.length:Int) 1 l0_0 l0_1
end
theorem spec_l1Less.mono_l:∀ k,(∀ y0 y1,LeO (spec_l1Less.f k y0 y1) (spec_l1Less.f (k+1) y0 y1))∧(∀ y0 y1 y2 y3,LeO (spec_l1Less.l0 k y0 y1 y2 y3) (spec_l1Less.l0 (k+1) y0 y1 y2 y3))∧(∀ y0 y1 y2 y3 y4 y5,LeO (spec_l1Less.l1 k y0 y1 y2 y3 y4 y5) (spec_l1Less.l1 (k+1) y0 y1 y2 y3 y4 y5))
 | 0=>⟨fun _ _ r h=>by simp [spec_l1Less.f] at h,fun _ _ _ _ r h=>by simp [spec_l1Less.l0] at h,fun _ _ _ _ _ _ r h=>by simp [spec_l1Less.l1] at h⟩
 | k+1=>by
  obtain ⟨ih0,ih1,ih2⟩:=spec_l1Less.mono_l k
  refine ⟨?_,?_,?_⟩
  ·intro y0 y1
   unfold spec_l1Less.f
   repeat' first
   | (with_reducible exact ih0 _ _)
   | (with_reducible exact ih1 _ _ _ _)
   | (with_reducible exact ih2 _ _ _ _ _ _)
   | (with_reducible exact LeO.refl _)
   | (with_reducible exact LeO.none _)
   | (with_reducible refine LeO.ite ?_ ?_)
   | (with_reducible refine LeO.bind ?_ (fun _=>?_))
   | exact ih0 _ _
   | exact ih1 _ _ _ _
   | exact ih2 _ _ _ _ _ _
   | exact LeO.none _
   | refine LeO.ite ?_ ?_
   | refine LeO.bind ?_ (fun _=>?_)
  ·intro y0 y1 y2 y3
   unfold spec_l1Less.l0
   repeat' first
   | (with_reducible exact ih0 _ _)
   | (with_reducible exact ih1 _ _ _ _)
   | (with_reducible exact ih2 _ _ _ _ _ _)
   | (with_reducible exact LeO.refl _)
   | (with_reducible exact LeO.none _)
   | (with_reducible refine LeO.ite ?_ ?_)
   | (with_reducible refine LeO.bind ?_ (fun _=>?_))
   | exact ih0 _ _
   | exact ih1 _ _ _ _
   | exact ih2 _ _ _ _ _ _
   | exact LeO.none _
   | refine LeO.ite ?_ ?_
   | refine LeO.bind ?_ (fun _=>?_)
  ·intro y0 y1 y2 y3 y4 y5
   unfold spec_l1Less.l1
   repeat' first
   | (with_reducible exact ih0 _ _)
   | (with_reducible exact ih1 _ _ _ _)
   | (with_reducible exact ih2 _ _ _ _ _ _)
   | (with_reducible exact LeO.refl _)
   | (with_reducible exact LeO.none _)
   | (with_reducible refine LeO.ite ?_ ?_)
   | (with_reducible refine LeO.bind ?_ (fun _=>?_))
   | exact ih0 _ _
   | exact ih1 _ _ _ _
   | exact ih2 _ _ _ _ _ _
   | exact LeO.none _
   | refine LeO.ite ?_ ?_
   | refine LeO.bind ?_ (fun _=>?_)
theorem spec_l1Less.mono:∀ a0 a1 k,LeO (spec_l1Less.f k a0 a1) (spec_l1Less.f (k+1) a0 a1):=by
 intro a0 a1 k
 obtain ⟨ih0,ih1,ih2⟩:=spec_l1Less.mono_l k
 exact ih0 a0 a1
def spec_l1Less.T9:Bool × List (List Nat × List Nat):=(true,[([],[]),([0],[0]),([],[]),([1,2],[1,2]),([3],[3]),([],[]),([5],[5]),([],[]),([],[]),([7,8],[7,8]),([6,9],[6,9]),([10],[10]),([4,11],[4,11]),([12,0,1,2,3,4,5,6,7,8,9,10,11,12],[12])])
def spec_l1Less.B9:List Nat:=[0,1,0,7,15,0,32,0,0,384,992,2016,4095,8191]
theorem spec_l1Less.tab9:rtab .any (opsOf Try.f61 9)=spec_l1Less.T9:=by kernel_rfl
theorem spec_l1Less.bits9:waitsOk spec_l1Less.T9.2 spec_l1Less.B9=true:=by kernel_rfl
def spec_l1Less.T11:Bool × List (List Nat × List Nat):=(true,[([],[]),([0],[0]),([],[]),([2],[2]),([],[]),([3,4],[3,4]),([1,5],[1,5]),([6],[6]),([7,7,0,1,2,3,4,5,6,7],[7])])
def spec_l1Less.B11:List Nat:=[0,1,0,4,0,28,63,127,255]
theorem spec_l1Less.tab11:rtab .any (opsOf Try.f61 11)=spec_l1Less.T11:=by kernel_rfl
theorem spec_l1Less.bits11:waitsOk spec_l1Less.T11.2 spec_l1Less.B11=true:=by kernel_rfl
def spec_l1Less.T13:Bool × List (List Nat × List Nat):=(true,[([],[]),([0],[0]),([1],[1]),([2],[2]),([3,2],[2,3]),([2],[2]),([5,2],[2,5]),([4,6,2],[2,4,6]),([7,2],[2,7]),([2],[2]),([9,2],[2,9]),([2],[2]),([11,2],[2,11]),([10,12,2],[2,10,12]),([13,2],[2,13]),([8,14,2],[2,8,14]),([2,15],[2,15])])
def spec_l1Less.B13:List Nat:=[0,1,3,7,15,7,39,127,255,7,519,7,2055,7687,15879,32767,65535]
theorem spec_l1Less.tab13:rtab .any (opsOf Try.f61 13)=spec_l1Less.T13:=by kernel_rfl
theorem spec_l1Less.bits13:waitsOk spec_l1Less.T13.2 spec_l1Less.B13=true:=by kernel_rfl
def spec_l1Less.T14:Bool × List (List Nat × List Nat):=(true,[([],[]),([0],[0]),([],[]),([2],[2]),([1,3],[1,3]),([4],[4]),([5],[5]),([],[]),([7],[7]),([],[]),([9],[9]),([8,10],[8,10]),([6,11],[6,11]),([12,12,0,1,2,3,4,5,6,7,8,9,10,11,12],[12])])
def spec_l1Less.B14:List Nat:=[0,1,0,4,15,31,63,0,128,0,512,1920,4095,8191]
theorem spec_l1Less.tab14:rtab .any (opsOf Try.f61 14)=spec_l1Less.T14:=by kernel_rfl
theorem spec_l1Less.bits14:waitsOk spec_l1Less.T14.2 spec_l1Less.B14=true:=by kernel_rfl
set_option maxHeartbeats 8000000 in
set_option maxRecDepth 100000 in
theorem spec_l1Less.calls (k:Nat):∀ (P0_0_:Nat→Prop) (A0_0:Option Addr) (c0_0:Nat) (l0_0:List Bool) (P0_1_:Nat→Prop) (A0_1:Option Addr) (c0_1:Nat) (l0_1:List Bool) (r1:List Bool) (r2:List Bool) (w:World) (hs0_0:Kd.V Kd.bool 4 w w.heap.size (fun k_=>P0_0_ k_) (.slice A0_0 l0_0.length c0_0) l0_0) (hs0_1:Kd.V Kd.bool 4 w w.heap.size (fun k_=>P0_1_ k_) (.slice A0_1 l0_1.length c0_1) l0_1) (h:spec_l1Less.f k l0_0 l0_1=some (r1,r2)),
  Calls Try.prog 61 #[.agg #[.slice A0_0 l0_0.length c0_0,.slice A0_1 l0_1.length c0_1]] w fun e w'=>∃ v0_ v1_:Value,e=.returned (.agg #[v0_,v1_])∧Kd.V Kd.bool 4 w' w.heap.size (fun k_=>((P0_0_ k_ ∨ P0_1_ k_) ∨ w.heap.size≤k_)) v0_ r1∧Kd.V Kd.bool 4 w' w.heap.size (fun k_=>((P0_0_ k_ ∨ P0_1_ k_) ∨ w.heap.size≤k_)) v1_ r2∧Below w.heap.size w w':=by
 induction k using Nat.strongRecOn with
 | _ k ih =>
 intro P0_0_ A0_0 c0_0 l0_0 P0_1_ A0_1 c0_1 l0_1 r1 r2 w hs0_0 hs0_1 h
 cases k with
 | zero=>exact absurd h (by simp [spec_l1Less.f])
 | succ k =>
 simp only [spec_l1Less.f] at h
 have hu59:=Try.underlying59
 have HO0_0:=Aside0.mk (show Kd.V Kd.bool 4 w w.heap.size (fun k_=>((P0_0_ k_ ∨ P0_1_ k_) ∨ w.heap.size≤k_)) (.slice A0_0 l0_0.length c0_0) l0_0 from Kd.V_mono hs0_0 (fun k_ hk=>.inl (.inl hk)))
 have HO0_1:=Aside0.mk (show Kd.V Kd.bool 4 w w.heap.size (fun k_=>((P0_0_ k_ ∨ P0_1_ k_) ∨ w.heap.size≤k_)) (.slice A0_1 l0_1.length c0_1) l0_1 from Kd.V_mono hs0_1 (fun k_ hk=>.inl (.inr hk)))
 have HB:=Aside0.mk (Below.refl w.heap.size w)
 have H:(spec_l1Less.l0 k (l0_1.length:Int) 1 l0_0 l0_1)=some (r1,r2):=h
 clear h
 have H':=Aside0.mk H
 clear H
 go_enter Try.func61,Try.ntmps61
 go_wp2_with (first|((with_reducible refine gate_dst (N:=1) rfl ?_);refine box_event ?hg (N:=1) ?hd (cs:=#[.slice A0_0 l0_0.length c0_0,.slice A0_1 l0_1.length c0_1]) (t:=59) ?hr ?_;(case hd=>rfl);(case hg=>rfl);(case hr=>first|(go_simp;done)|(go_simp;rfl));intro gb241 hg w2 hbox hb;have n0_:=Aside0.mk (Kd.V_below (Kd.V_elderB (by (with_reducible repeat (first|apply Kd.V_alloc|apply Kd.V_drewN|apply Kd.V_drew));exact HO0_0.out) gb241 (Nat.le_of_eq hg.symm)) hb);have n1_:=Aside0.mk (Kd.V_below (Kd.V_elderB (by (with_reducible repeat (first|apply Kd.V_alloc|apply Kd.V_drewN|apply Kd.V_drew));exact HO0_1.out) gb241 (Nat.le_of_eq hg.symm)) hb);have n2_:=Aside0.mk (yP (by repeat (first|(with_reducible first|exact HB.out|apply yA|apply yB|apply yC)|exact HB.out)) hb);have n3_:=Aside0.mk (hbox);have n4_:=Aside0.mk ((by rw [hg];exact (yQ (by repeat (first|(with_reducible first|exact HB.out|apply yA|apply yB|apply yC)|exact HB.out))):w.heap.size≤gb241));have n5_:=Aside0.mk ((by rw [hg];exact (yQ (by repeat (first|(with_reducible first|exact HB.out|apply yA|apply yB|apply yC)|exact HB.out))):w.heap.size≤gb241));clear HO0_0;clear HO0_1;clear HB;have HO0_0:=n0_;have HO0_1:=n1_;have HB:=n2_;have BK241:=n3_;have GW241:=n4_;have GE241:=n5_;clear n0_ n1_ n2_ n3_ n4_ n5_;clear hb hbox hg)|((with_reducible refine gate_dst (N:=2) rfl ?_);refine box_event ?hg (N:=2) ?hd (cs:=#[.slice none 0 0,.slice none 0 0]) (t:=59) ?hr ?_;(case hd=>rfl);(case hg=>rfl);(case hr=>first|(go_simp;done)|(go_simp;rfl));intro gb242 hg w3 hbox hb;have n0_:=Aside0.mk (Kd.V_below (Kd.V_elderB (by (with_reducible repeat (first|apply Kd.V_alloc|apply Kd.V_drewN|apply Kd.V_drew));exact HO0_0.out) gb242 (Nat.le_of_eq hg.symm)) hb);have n1_:=Aside0.mk (Kd.V_below (Kd.V_elderB (by (with_reducible repeat (first|apply Kd.V_alloc|apply Kd.V_drewN|apply Kd.V_drew));exact HO0_1.out) gb242 (Nat.le_of_eq hg.symm)) hb);have n2_:=Aside0.mk (blk_below (g:=gb241) (o:=.cells #[.slice A0_0 l0_0.length c0_0,.slice A0_1 l0_1.length c0_1] 59 (0,0)) (by (with_reducible repeat (first|refine yE ?_ _|refine yF ?_|refine yG ?_ _));exact BK241.out) hb);have n3_:=Aside0.mk (yP (by repeat (first|(with_reducible first|exact HB.out|apply yA|apply yB|apply yC|refine yD ?_ GE241.out)|exact HB.out)) hb);have n4_:=Aside0.mk (hbox);have n5_:=Aside0.mk ((by rw [hg];exact (yQ (by repeat (first|(with_reducible first|exact HB.out|apply yA|apply yB|apply yC|refine yD ?_ GE241.out)|exact HB.out))):w.heap.size≤gb242));have n6_:=Aside0.mk ((by rw [hg];exact (yQ (by repeat (first|(with_reducible first|exact HB.out|apply yA|apply yB|apply yC|refine yD ?_ GE241.out)|exact HB.out))):w.heap.size≤gb242));have n7_:=Aside0.mk ((by rw [hg];exact Nat.ne_of_lt (blk_lt (g:=gb241) (o:=.cells #[.slice A0_0 l0_0.length c0_0,.slice A0_1 l0_1.length c0_1] 59 (0,0)) (by (with_reducible repeat (first|refine yE ?_ _|refine yF ?_|refine yG ?_ _));exact BK241.out)):gb241≠gb242));have n8_:=Aside0.mk ((by rw [hg];exact Nat.ne_of_gt (blk_lt (g:=gb241) (o:=.cells #[.slice A0_0 l0_0.length c0_0,.slice A0_1 l0_1.length c0_1] 59 (0,0)) (by (with_reducible repeat (first|refine yE ?_ _|refine yF ?_|refine yG ?_ _));exact BK241.out)):gb242≠gb241));clear HO0_0;clear HO0_1;clear BK241;clear HB;have HO0_0:=n0_;have HO0_1:=n1_;have BK241:=n2_;have HB:=n3_;have BK242:=n4_;have GW242:=n5_;have GE242:=n6_;have NB241_242:=n7_;have NB242_241:=n8_;clear n0_ n1_ n2_ n3_ n4_ n5_ n6_ n7_ n8_;clear hb hbox hg;have hnb4:=NB241_242.out;have hnc4:=NB242_241.out;have hcz5_0:w3.cell? ⟨gb241,0,none⟩=some (.slice A0_0 l0_0.length c0_0):=(blk_cell BK241.out 0).trans rfl;have hcz5_1:w3.cell? ⟨gb241,1,none⟩=some (.slice A0_1 l0_1.length c0_1):=(blk_cell BK241.out 1).trans rfl;have hfz5_0:=blk_frozen BK241.out 0;have hfz5_1:=blk_frozen BK241.out 1))
 go_loopg [4] k (fun kq v4 w'=>∃ (x4_1:Int),v4=.int .i64 x4_1∧Aside0 (spec_l1Less.l0 kq (l0_1.length:Int) x4_1 l0_0 l0_1=some (r1,r2))∧Aside0 (kq≤k)∧Aside0 (Kd.V Kd.bool 4 w' w.heap.size (fun k_=>((P0_0_ k_ ∨ P0_1_ k_) ∨ w.heap.size≤k_)∧k_≠gb241∧k_≠gb242) (.slice A0_0 l0_0.length c0_0) l0_0)∧Aside0 (Kd.V Kd.bool 4 w' w.heap.size (fun k_=>((P0_0_ k_ ∨ P0_1_ k_) ∨ w.heap.size≤k_)∧k_≠gb241∧k_≠gb242) (.slice A0_1 l0_1.length c0_1) l0_1)∧Aside0 (w'.heap[gb241]?=some (.cells #[(.slice A0_0 l0_0.length c0_0),(.slice A0_1 l0_1.length c0_1)] 59 (0,0)))∧Aside0 (w'.heap[gb242]?=some (.cells #[(.slice none 0 0),(.slice none 0 0)] 59 (0,0)))∧Aside0 (Below w.heap.size w w'))
 case atStart=>exact ⟨(1),(by first|rfl|(simp;done)|(simp [*];done)|(simp [Int.tmod_eq_emod_of_nonneg];done)),H',⟨Nat.le_refl _⟩,⟨by (with_reducible repeat (first|apply Kd.V_alloc|apply Kd.V_drewN|apply Kd.V_drew));exact Kd.V_mono HO0_0.out (fun _ hk=>⟨hk.1.1,⟨hk.1.2,hk.2⟩⟩)⟩,⟨by (with_reducible repeat (first|apply Kd.V_alloc|apply Kd.V_drewN|apply Kd.V_drew));exact Kd.V_mono HO0_1.out (fun _ hk=>⟨hk.1.1,⟨hk.1.2,hk.2⟩⟩)⟩,⟨by (with_reducible repeat (first|refine yE ?_ _|refine yF ?_|refine yG ?_ _));exact BK241.out⟩,⟨by (with_reducible repeat (first|refine yE ?_ _|refine yF ?_|refine yG ?_ _));exact BK242.out⟩,⟨by repeat (first|(with_reducible first|exact HB.out|apply yA|apply yB|apply yC|refine yD ?_ GE241.out|refine yD ?_ GE242.out)|exact HB.out)⟩⟩
 case round =>
  clear H'
  try clear p2
  try clear c4
  try clear hcz5_0
  try clear hcz5_1
  try clear hfz5_0
  try clear hfz5_1
  obtain ⟨x4_1,rfl,HA,HK1,HO_242000,HO_242001,BK241,BK242,HB⟩:=hrel
  cases gk with
  | zero=>exact absurd HA.out (by simp [spec_l1Less.l0])
  | succ k1 =>
   have H:=HA.out
   clear HA
   simp only [spec_l1Less.l0] at H
   by_cases c6:x4_1<(l0_1.length:Int)
   ·rw [if_pos c6] at H
    have c6b0:decide (x4_1<(l0_1.length:Int))=true:=decide_eq_true c6
    clear c6
    by_cases c7:x4_1=0
    ·rw [if_pos c7] at H
     exact absurd H (by simp)
    ·rw [if_neg c7] at H
     have c7b0:(x4_1 == 0)=false:=beq_eq_false_iff_ne.mpr c7
     have c7b1:(x4_1 != 0)=true:=bne_iff_ne.mpr c7
     have H':=Aside0.mk H
     clear H
     go_wp2
     go_loopg [5,6] k1 (fun kq v5 v6 w'=>∃ (x5_2:Bool) (x6_2:Int),v5=.bool x5_2∧v6=.int .i64 x6_2∧Aside0 (spec_l1Less.l1 kq (l0_1.length:Int) x4_1 x5_2 x6_2 l0_0 l0_1=some (r1,r2))∧Aside0 (kq≤k1)∧Aside0 (Kd.V Kd.bool 4 w' w.heap.size (fun k_=>((P0_0_ k_ ∨ P0_1_ k_) ∨ w.heap.size≤k_)∧k_≠gb241∧k_≠gb242) (.slice A0_0 l0_0.length c0_0) l0_0)∧Aside0 (Kd.V Kd.bool 4 w' w.heap.size (fun k_=>((P0_0_ k_ ∨ P0_1_ k_) ∨ w.heap.size≤k_)∧k_≠gb241∧k_≠gb242) (.slice A0_1 l0_1.length c0_1) l0_1)∧Aside0 (w'.heap[gb241]?=some (.cells #[(.slice A0_0 l0_0.length c0_0),(.slice A0_1 l0_1.length c0_1)] 59 (0,0)))∧Aside0 (w'.heap[gb242]?=some (.cells #[(.slice none 0 0),(.slice none 0 0)] 59 (0,0)))∧Aside0 (Below w.heap.size w w'))
     case atStart=>exact ⟨(((Int.tmod (l0_1.length:Int) x4_1) == 0)),(x4_1),(by first|rfl|(simp;done)|(simp [*];done)|(simp [Int.tmod_eq_emod_of_nonneg];done)),(by first|rfl|(simp;done)|(simp [*];done)|(simp [Int.tmod_eq_emod_of_nonneg];done)),H',⟨Nat.le_refl _⟩,⟨by (with_reducible repeat (first|apply Kd.V_alloc|apply Kd.V_drewN|apply Kd.V_drew));exact HO_242000.out⟩,⟨by (with_reducible repeat (first|apply Kd.V_alloc|apply Kd.V_drewN|apply Kd.V_drew));exact HO_242001.out⟩,⟨by (with_reducible repeat (first|refine yE ?_ _|refine yF ?_|refine yG ?_ _));exact BK241.out⟩,⟨by (with_reducible repeat (first|refine yE ?_ _|refine yF ?_|refine yG ?_ _));exact BK242.out⟩,⟨by repeat (first|(with_reducible first|exact HB.out|apply yA|apply yB|apply yC|refine yD ?_ GE241.out|refine yD ?_ GE242.out)|exact HB.out)⟩⟩
     case round =>
      clear H'
      try clear p2
      try clear c4
      try clear c6
      try clear c6b0
      try clear c7
      try clear c7b0
      try clear c7b1
      try clear hcz5_0
      try clear hcz5_1
      try clear hfz5_0
      try clear hfz5_1
      try clear p2
      obtain ⟨x5_2,x6_2,rfl,rfl,HA,HK2,HO_242000,HO_242001,BK241,BK242,HB⟩:=hrel
      cases gk with
      | zero=>exact absurd HA.out (by simp [spec_l1Less.l1])
      | succ k2 =>
       have H:=HA.out
       clear HA
       simp only [spec_l1Less.l1] at H
       by_cases c8:x6_2<(l0_1.length:Int)
       ·rw [if_pos c8] at H
        have c8b0:decide (x6_2<(l0_1.length:Int))=true:=decide_eq_true c8
        clear c8
        by_cases c9:x5_2=true
        ·subst c9
         have H1:(if 0≤x6_2 then (if x6_2<(l0_1.length:Int) then (if 0≤(wrap64 (x6_2 - x4_1)) then (if (wrap64 (x6_2 - x4_1))<(l0_1.length:Int) then (spec_l1Less.l1 k2 (l0_1.length:Int) x4_1 ((rdOf false l0_1 x6_2) == (rdOf false l0_1 (wrap64 (x6_2 - x4_1)))) (wrap64 (x6_2+1)) l0_0 l0_1) else (none)) else (none)) else (none)) else (none))=some (r1,r2):=by rw [if_pos rfl] at H;exact H
         clear H
         have H:=H1
         clear H1
         by_cases c10:0≤x6_2
         ·rw [if_pos c10] at H
          have c10b0:decide (0≤x6_2)=true:=decide_eq_true c10
          clear c10
          by_cases c11:x6_2<(l0_1.length:Int)
          ·rw [if_pos c11] at H
           have c11b0:decide (x6_2<(l0_1.length:Int))=true:=decide_eq_true c11
           clear c11
           obtain ⟨ji12,hji12⟩:∃ j_:Int,(wrap64 (x6_2 - x4_1))=j_:=⟨_,rfl⟩
           replace H:(if 0≤(ji12) then (if (ji12)<(l0_1.length:Int) then (spec_l1Less.l1 k2 (l0_1.length:Int) x4_1 ((rdOf false l0_1 x6_2) == (rdOf false l0_1 (ji12))) (wrap64 (x6_2+1)) l0_0 l0_1) else (none)) else (none))=some (r1,r2):=by first|(rw [hji12] at H;exact H)|(simp only [hji12] at H ⊢;exact H)
           have hji12w:(IntKind.i64.wrap (x6_2 - x4_1))=ji12:=(i64_w _).trans hji12
           by_cases c13:0≤(ji12)
           ·rw [if_pos c13] at H
            have c13b0:decide (0≤(ji12))=true:=decide_eq_true c13
            clear c13
            by_cases c14:(ji12)<(l0_1.length:Int)
            ·rw [if_pos c14] at H
             have c14b0:decide ((ji12)<(l0_1.length:Int))=true:=decide_eq_true c14
             clear c14
             have H':=Aside0.mk H
             clear H
             try go_wp2
             have n0_:=Aside0.mk (Kd.V_drew HO_242000.out)
             have n1_:=Aside0.mk (Kd.V_drew HO_242001.out)
             have n2_:=Aside0.mk (yF BK241.out)
             have n3_:=Aside0.mk (yF BK242.out)
             have n4_:=Aside0.mk (yC HB.out)
             clear HO_242000
             clear HO_242001
             clear BK241
             clear BK242
             clear HB
             have HO_242000:=n0_
             have HO_242001:=n1_
             have BK241:=n2_
             have BK242:=n3_
             have HB:=n4_
             clear n0_ n1_ n2_ n3_ n4_
             have p268:0≤(x6_2:Int):=of_decide_eq_true (by first|(with_reducible assumption)|assumption)
             have q268:x6_2<(l0_1.length:Int):=of_decide_eq_true (by first|(with_reducible assumption)|assumption)
             obtain ⟨ad268,e268,hx268_0⟩:=Kd.at_bool (Kd.V_reads' HO_242001.out).2.2 x6_2 p268 q268
             cases e268
             replace p268:=eq_true p268
             replace q268:=eq_true q268
             have p269:0≤((ji12):Int):=of_decide_eq_true (by first|(with_reducible assumption)|assumption)
             have q269:(ji12)<(l0_1.length:Int):=of_decide_eq_true (by first|(with_reducible assumption)|assumption)
             obtain ⟨ad269,e269,hx269_0⟩:=Kd.at_bool (Kd.V_reads' HO_242001.out).2.2 (ji12) p269 q269
             obtain rfl:ad268=ad269:=(by injection e269)
             replace p269:=eq_true p269
             replace q269:=eq_true q269
             refine start_ (n:=14) (S:=fun w'=>w'.cell? ⟨gb241,0,none⟩=some (.slice A0_0 l0_0.length c0_0)∧w'.cell? ⟨gb241,1,none⟩=some (.slice (some ad268) l0_1.length c0_1)∧w'.cell? (ad268.add (x6_2).toNat)=some (.bool (rdOf false l0_1 x6_2))∧w'.cell? (ad268.add ((ji12)).toNat)=some (.bool (rdOf false l0_1 (ji12)))) (ds:=[]) #[false,false,false,false,false,false,false,false,false,false,false,false,false,false] (by kernel_rfl) rfl rfl ⟨(blk_cell BK241.out 0).trans rfl,(blk_cell BK241.out 1).trans rfl,hx268_0,hx269_0⟩ (fun hHeld=>?_);refine with_tabW spec_l1Less.tab9 spec_l1Less.bits9 (fun HT_ HW_=>?_)
             generalize wr.drew=w15 at HO_242000 HO_242001 BK241 BK242 HB hx268_0 hx269_0 hHeld ⊢
             refine pure_ (i:=0) (N:=some 30) (v:=?_) (a':=?_) #[true,false,false,false,false,false,false,false,false,false,false,false,false,false] rfl rfl (any_of HT_.out (by kernel_rfl)) (fun _ _ _ h=>h) (Or.inl ⟨by rfl,?_⟩) ?_ ?_
             rotate_left
             ·intro w'
              go_simp
              with_reducible rfl
             rotate_left
             ·simp only [Act.put,yK,yL,yM,i64_w,i32_w]
              rfl
             refine pure_ (i:=2) (N:=some 32) (v:=?_) (a':=?_) #[true,false,true,false,false,false,false,false,false,false,false,false,false,false] rfl rfl (any_of HT_.out (by kernel_rfl)) (fun _ _ _ h=>h) (Or.inl ⟨by rfl,?_⟩) ?_ ?_
             rotate_left
             ·intro w'
              go_simp
              with_reducible rfl
             rotate_left
             ·simp only [Act.put,yK,yL,yM,i64_w,i32_w]
              rfl
             refine pure_ (i:=5) (N:=some 35) (v:=?_) (a':=?_) #[true,false,true,false,false,true,false,false,false,false,false,false,false,false] rfl rfl (any_of HT_.out (by kernel_rfl)) (fun _ _ _ h=>h) (Or.inl ⟨by rfl,?_⟩) ?_ ?_
             rotate_left
             ·intro w'
              go_simp
              with_reducible rfl
             rotate_left
             ·simp only [Act.put,yK,yL,yM,i64_w,i32_w]
              rfl
             refine pure_ (i:=7) (N:=some 37) (v:=?_) (a':=?_) #[true,false,true,false,false,true,false,true,false,false,false,false,false,false] rfl rfl (any_of HT_.out (by kernel_rfl)) (fun _ _ _ h=>h) (Or.inl ⟨by rfl,?_⟩) ?_ ?_
             rotate_left
             ·intro w'
              go_simp
              with_reducible rfl
             rotate_left
             ·simp only [Act.put,yK,yL,yM,i64_w,i32_w]
              rfl
             refine pure_ (i:=8) (N:=some 38) (v:=?_) (a':=?_) #[true,false,true,false,false,true,false,true,true,false,false,false,false,false] rfl rfl (any_of HT_.out (by kernel_rfl)) (fun _ _ _ h=>h) (Or.inl ⟨by rfl,?_⟩) ?_ ?_
             rotate_left
             ·intro w'
              go_simp
              with_reducible rfl
             rotate_left
             ·simp only [Act.put,yK,yL,yM,i64_w,i32_w]
              rfl
             refine pure_ (i:=9) (N:=some 39) (v:=?_) (a':=?_) #[true,false,true,false,false,true,false,true,true,true,false,false,false,false] rfl rfl (any_of HT_.out (by kernel_rfl)) (fun _ _ _ h=>h) (Or.inl ⟨by rfl,?_⟩) ?_ ?_
             rotate_left
             ·intro w'
              go_simp
              with_reducible rfl
             rotate_left
             ·simp only [Act.put,yK,yL,yM,i64_w,i32_w]
              rfl
             refine take_ (i:=1) (N:=some 31) (v:=?_) (a':=?_) #[true,true,true,false,false,true,false,true,true,true,false,false,false,false] rfl rfl (take_ofW HT_.out HW_.out (by kernel_rfl)) (fun _ _ _ h=>h) (Or.inl ⟨by rfl,?_⟩) hHeld ?_ ?_
             rotate_left
             ·rintro w' ⟨s0,s1,s2,s3⟩
              go_simp
              with_reducible rfl
             rotate_left
             ·simp only [Act.put,yK,yL,yM,i64_w,i32_w]
              rfl
             refine pure_ (i:=3) (N:=some 33) (v:=?_) (a':=?_) #[true,true,true,true,false,true,false,true,true,true,false,false,false,false] rfl rfl (any_of HT_.out (by kernel_rfl)) (fun _ _ _ h=>h) (Or.inl ⟨by rfl,?_⟩) ?_ ?_
             rotate_left
             ·intro w'
              go_simp
              with_reducible rfl
             rotate_left
             ·simp only [Act.put,yK,yL,yM,i64_w,i32_w]
              rfl
             refine take_ (i:=4) (N:=some 34) (v:=?_) (a':=?_) #[true,true,true,true,true,true,false,true,true,true,false,false,false,false] rfl rfl (take_ofW HT_.out HW_.out (by kernel_rfl)) (fun _ _ _ h=>h) (Or.inl ⟨by rfl,?_⟩) hHeld ?_ ?_
             rotate_left
             ·rintro w' ⟨s0,s1,s2,s3⟩
              go_simp
              with_reducible rfl
             rotate_left
             ·simp only [Act.put,yK,yL,yM,i64_w,i32_w]
              rfl
             refine take_ (i:=6) (N:=some 36) (v:=?_) (a':=?_) #[true,true,true,true,true,true,true,true,true,true,false,false,false,false] rfl rfl (take_ofW HT_.out HW_.out (by kernel_rfl)) (fun _ _ _ h=>h) (Or.inl ⟨by rfl,?_⟩) hHeld ?_ ?_
             rotate_left
             ·rintro w' ⟨s0,s1,s2,s3⟩
              go_simp
              with_reducible rfl
             rotate_left
             ·simp only [Act.put,yK,yL,yM,i64_w,i32_w]
              rfl
             refine pure_ (i:=10) (N:=some 40) (v:=?_) (a':=?_) #[true,true,true,true,true,true,true,true,true,true,true,false,false,false] rfl rfl (any_of HT_.out (by kernel_rfl)) (fun _ _ _ h=>h) (Or.inl ⟨by rfl,?_⟩) ?_ ?_
             rotate_left
             ·intro w'
              go_simp
              with_reducible rfl
             rotate_left
             ·simp only [Act.put,yK,yL,yM,i64_w,i32_w]
              rfl
             refine take_ (i:=11) (N:=some 41) (v:=?_) (a':=?_) #[true,true,true,true,true,true,true,true,true,true,true,true,false,false] rfl rfl (take_ofW HT_.out HW_.out (by kernel_rfl)) (fun _ _ _ h=>h) (Or.inl ⟨by rfl,?_⟩) hHeld ?_ ?_
             rotate_left
             ·rintro w' ⟨s0,s1,s2,s3⟩
              go_simp
              with_reducible rfl
             rotate_left
             ·simp only [Act.put,yK,yL,yM,i64_w,i32_w]
              rfl
             refine pure_ (i:=12) (N:=some 42) (v:=?_) (a':=?_) #[true,true,true,true,true,true,true,true,true,true,true,true,true,false] rfl rfl (any_of HT_.out (by kernel_rfl)) (fun _ _ _ h=>h) (Or.inl ⟨by rfl,?_⟩) ?_ ?_
             rotate_left
             ·intro w'
              go_simp
              with_reducible rfl
             rotate_left
             ·simp only [Act.put,yK,yL,yM,i64_w,i32_w]
              rfl
             refine pure_ (i:=13) (N:=some 5) (v:=?_) (a':=?_) #[true,true,true,true,true,true,true,true,true,true,true,true,true,true] rfl rfl (any_of HT_.out (by kernel_rfl)) (fun _ _ _ h=>h) (Or.inl ⟨by rfl,?_⟩) ?_ ?_
             rotate_left
             ·intro w'
              go_simp
              with_reducible rfl
             rotate_left
             ·simp only [Act.put,yK,yL,yM,i64_w,i32_w]
              rfl
             refine done_ (done_of HT_.out (by kernel_rfl)) ?_
             try go_wp2
             go_roundg k2
             case measure=>have:=HK1.out;have:=HK2.out;omega
             case rel=>exact ⟨(((rdOf false l0_1 x6_2) == (rdOf false l0_1 (ji12)))),(wrap64 (x6_2+1)),(by first|rfl|(simp;done)|(simp only [← hji12]<;>(first|rfl|simp))|(simp [*];done)),(by first|rfl|(simp;done)|(simp [*];done)|(simp [Int.tmod_eq_emod_of_nonneg];done)),H',⟨by have:=HK1.out;have:=HK2.out;omega⟩,⟨by (with_reducible repeat (first|apply Kd.V_alloc|apply Kd.V_drewN|apply Kd.V_drew));exact HO_242000.out⟩,⟨by (with_reducible repeat (first|apply Kd.V_alloc|apply Kd.V_drewN|apply Kd.V_drew));exact HO_242001.out⟩,⟨by (with_reducible repeat (first|refine yE ?_ _|refine yF ?_|refine yG ?_ _));exact BK241.out⟩,⟨by (with_reducible repeat (first|refine yE ?_ _|refine yF ?_|refine yG ?_ _));exact BK242.out⟩,⟨by repeat (first|(with_reducible first|exact HB.out|apply yA|apply yB|apply yC|refine yD ?_ GE241.out|refine yD ?_ GE242.out)|exact HB.out)⟩⟩
            ·rw [if_neg c14] at H
             exact absurd H (by simp)
           ·rw [if_neg c13] at H
            exact absurd H (by simp)
          ·rw [if_neg c11] at H
           exact absurd H (by simp)
         ·rw [if_neg c10] at H
          exact absurd H (by simp)
        ·replace c9:=Bool.eq_false_iff.mpr c9
         subst c9
         have H1:(spec_l1Less.l0 k2 (l0_1.length:Int) (wrap64 (x4_1+1)) l0_0 l0_1)=some (r1,r2):=by rw [if_neg (show ¬ (false=true) by decide)] at H;exact H
         clear H
         have H:=H1
         clear H1
         have H':=Aside0.mk H
         clear H
         go_wp2
         go_roundg k2
         case measure=>have:=HK1.out;have:=HK2.out;omega
         case rel=>exact ⟨(wrap64 (x4_1+1)),(by first|rfl|(simp;done)|(simp [*];done)|(simp [Int.tmod_eq_emod_of_nonneg];done)),H',⟨by have:=HK1.out;have:=HK2.out;omega⟩,⟨by (with_reducible repeat (first|apply Kd.V_alloc|apply Kd.V_drewN|apply Kd.V_drew));exact HO_242000.out⟩,⟨by (with_reducible repeat (first|apply Kd.V_alloc|apply Kd.V_drewN|apply Kd.V_drew));exact HO_242001.out⟩,⟨by (with_reducible repeat (first|refine yE ?_ _|refine yF ?_|refine yG ?_ _));exact BK241.out⟩,⟨by (with_reducible repeat (first|refine yE ?_ _|refine yF ?_|refine yG ?_ _));exact BK242.out⟩,⟨by repeat (first|(with_reducible first|exact HB.out|apply yA|apply yB|apply yC|refine yD ?_ GE241.out|refine yD ?_ GE242.out)|exact HB.out)⟩⟩
       ·rw [if_neg c8] at H
        have c8b0:decide (x6_2<(l0_1.length:Int))=false:=decide_eq_false c8
        clear c8
        by_cases c16:x5_2=true
        ·subst c16
         have H1:(if 0≤x4_1 then (if x4_1≤(l0_1.length:Int) then ((spec_l1Less.f k2 l0_0 (l0_1.take (x4_1:Int).toNat)).bind fun bt275=>(some (bt275.1,bt275.2))) else (none)) else (none))=some (r1,r2):=by rw [if_pos rfl] at H;exact H
         clear H
         have H:=H1
         clear H1
         by_cases c17:0≤x4_1
         ·rw [if_pos c17] at H
          have c17b0:=eq_true c17
          have c17b1:decide (0≤x4_1)=true:=decide_eq_true c17
          clear c17
          by_cases c18:x4_1≤(l0_1.length:Int)
          ·rw [if_pos c18] at H
           have c18b0:=eq_true c18
           have c18b1:decide (x4_1≤(l0_1.length:Int))=true:=decide_eq_true c18
           clear c18
           obtain ⟨y270,hy270⟩:∃ y_:List Bool,y_=(l0_1.take (x4_1:Int).toNat):=⟨_,rfl⟩
           replace H:((spec_l1Less.f k2 l0_0 y270).bind fun bt275=>(some (bt275.1,bt275.2)))=some (r1,r2):=by first|(rw [hy270];with_reducible exact H)|(have H2_:=(Option.bind_some _ _).symm.trans H;rw [hy270];with_reducible exact H2_)|(have H2_:=(Option.bind_some _ _).symm.trans H;with_reducible exact H2_)|with_reducible exact H|(rw [hy270];exact H)|exact H
           have Ny270:=Aside0.mk hy270
           clear hy270
           replace H:=Option.bind_eq_some_iff.mp H
           obtain ⟨⟨t275,t278⟩,A190,H⟩:=H
           replace H:(some (t275,t278))=some (r1,r2):=H
           have A19:=Aside0.mk A190
           clear A190
           simp only [Option.some.injEq,Prod.mk.injEq] at H
           obtain ⟨rfl,rfl⟩:=H
           try go_wp2
           have n0_:=Aside0.mk (Kd.V_drew HO_242000.out)
           have n1_:=Aside0.mk (Kd.V_drew HO_242001.out)
           have n2_:=Aside0.mk (yF BK241.out)
           have n3_:=Aside0.mk (yF BK242.out)
           have n4_:=Aside0.mk (yC HB.out)
           clear HO_242000
           clear HO_242001
           clear BK241
           clear BK242
           clear HB
           have HO_242000:=n0_
           have HO_242001:=n1_
           have BK241:=n2_
           have BK242:=n3_
           have HB:=n4_
           clear n0_ n1_ n2_ n3_ n4_
           have q21:(x4_1:Int)≤((l0_1.length:Int):Int):=of_decide_eq_true (by first|(with_reducible assumption)|assumption)
           obtain ⟨i021,hi021,_,hsz21,_⟩:=info_parts info4
           have hroom21:l0_1.length≤c0_1:=(Kd.V_reads' HO_242001.out).2.1
           have hC21:Kd.F Kd.bool _ _ A0_1 l0_1.length l0_1:=(Kd.V_at (base:=w.heap.size) HO_242001.out).2.2
           have hcut21:=cut_to (P:=Try.prog) 46 4 .i64 Try.underlying46 hi021 A0_1 l0_1.length c0_1 x4_1 (of_decide_eq_true (by first|(with_reducible assumption)|assumption)) q21 hroom21
           have hr21:=Kd.F_take (m:=(x4_1:Int).toNat) hC21 (by omega)
           have hy21:y270.length=(x4_1:Int).toNat:=(by rw [Ny270.out,List.length_take];omega)
           rw [← Ny270.out] at hr21
           rw [← hy21] at hcut21
           have HO274:=Aside0.mk (show Kd.V Kd.bool 4 _ w.heap.size _ (.slice A0_1 y270.length c0_1) y270 from Kd.V_mk (by omega) hr21)
           have HC274:=Aside0.mk (show y270.length≤c0_1 from by omega)
           clear hr21 hC21 hroom21 hi021 hsz21
           have KY21:=Aside0.mk hy21
           clear hy21
           replace q21:=eq_true q21
           refine start_ (n:=9) (S:=fun w'=>w'.cell? ⟨gb241,0,none⟩=some (.slice A0_0 l0_0.length c0_0)∧w'.cell? ⟨gb241,1,none⟩=some (.slice A0_1 l0_1.length c0_1)) (ds:=[]) #[false,false,false,false,false,false,false,false,false] (by kernel_rfl) rfl rfl ⟨(blk_cell BK241.out 0).trans rfl,(blk_cell BK241.out 1).trans rfl⟩ (fun hHeld=>?_);refine with_tabW spec_l1Less.tab11 spec_l1Less.bits11 (fun HT_ HW_=>?_)
           generalize wr.drew=w20 at HO_242000 HO_242001 BK241 BK242 HB HO274 hHeld ⊢
           refine pure_ (i:=0) (N:=some 44) (v:=?_) (a':=?_) #[true,false,false,false,false,false,false,false,false] rfl rfl (any_of HT_.out (by kernel_rfl)) (fun _ _ _ h=>h) (Or.inl ⟨by rfl,?_⟩) ?_ ?_
           rotate_left
           ·intro w'
            go_simp
            with_reducible rfl
           rotate_left
           ·simp only [Act.put,yK,yL,yM,i64_w,i32_w]
            rfl
           refine pure_ (i:=2) (N:=some 46) (v:=?_) (a':=?_) #[true,false,true,false,false,false,false,false,false] rfl rfl (any_of HT_.out (by kernel_rfl)) (fun _ _ _ h=>h) (Or.inl ⟨by rfl,?_⟩) ?_ ?_
           rotate_left
           ·intro w'
            go_simp
            with_reducible rfl
           rotate_left
           ·simp only [Act.put,yK,yL,yM,i64_w,i32_w]
            rfl
           refine pure_ (i:=4) (N:=some 48) (v:=?_) (a':=?_) #[true,false,true,false,true,false,false,false,false] rfl rfl (any_of HT_.out (by kernel_rfl)) (fun _ _ _ h=>h) (Or.inl ⟨by rfl,?_⟩) ?_ ?_
           rotate_left
           ·intro w'
            go_simp
            with_reducible rfl
           rotate_left
           ·simp only [Act.put,yK,yL,yM,i64_w,i32_w]
            rfl
           refine take_ (i:=1) (N:=some 45) (v:=?_) (a':=?_) #[true,true,true,false,true,false,false,false,false] rfl rfl (take_ofW HT_.out HW_.out (by kernel_rfl)) (fun _ _ _ h=>h) (Or.inl ⟨by rfl,?_⟩) hHeld ?_ ?_
           rotate_left
           ·rintro w' ⟨s0,s1⟩
            go_simp
            with_reducible rfl
           rotate_left
           ·simp only [Act.put,yK,yL,yM,i64_w,i32_w]
            rfl
           refine take_ (i:=3) (N:=some 47) (v:=?_) (a':=?_) #[true,true,true,true,true,false,false,false,false] rfl rfl (take_ofW HT_.out HW_.out (by kernel_rfl)) (fun _ _ _ h=>h) (Or.inl ⟨by rfl,?_⟩) hHeld ?_ ?_
           rotate_left
           ·rintro w' ⟨s0,s1⟩
            go_simp
            with_reducible rfl
           rotate_left
           ·simp only [Act.put,yK,yL,yM,i64_w,i32_w]
            rfl
           refine pure_ (i:=5) (N:=some 49) (v:=?_) (a':=?_) #[true,true,true,true,true,true,false,false,false] rfl rfl (any_of HT_.out (by kernel_rfl)) (fun _ _ _ h=>h) (Or.inl ⟨by rfl,?_⟩) ?_ ?_
           rotate_left
           ·intro w'
            go_simp
            with_reducible rfl
           rotate_left
           ·simp only [Act.put,yK,yL,yM,i64_w,i32_w]
            rfl
           refine pure_ (i:=6) (N:=some 50) (v:=?_) (a':=?_) #[true,true,true,true,true,true,true,false,false] rfl rfl (any_of HT_.out (by kernel_rfl)) (fun _ _ _ h=>h) (Or.inl ⟨by rfl,?_⟩) ?_ ?_
           rotate_left
           ·intro w'
            go_simp
            with_reducible rfl
           rotate_left
           ·simp only [Act.put,yK,yL,yM,i64_w,i32_w]
            rfl
           refine one_ (i:=7) (N:=some 51) #[true,true,true,true,true,true,true,true,false] rfl rfl (one_of HT_.out (by kernel_rfl)) (by decide) (fun K hK=>?_)
           refine goes_ Try.func61 (by kernel_rfl) rfl #[.agg #[.slice A0_0 l0_0.length c0_0,.slice A0_1 y270.length c0_1]] (by rfl) rfl rfl (by (try simp only [List.map_toArray,List.map_cons,List.map_nil]);first|done|rfl|(simp only [List.length_drop,List.length_take];rfl)) ?_
           with_reducible refine (ih k2 (by have:=HK1.out;have:=HK2.out;omega) (fun k_=>(((P0_0_ k_ ∨ P0_1_ k_) ∨ w.heap.size≤k_)∧(k_≠gb241∧k_≠gb242))) _ _ l0_0 (fun k_=>(((P0_0_ k_ ∨ P0_1_ k_) ∨ w.heap.size≤k_)∧(k_≠gb241∧k_≠gb242))) _ _ y270 t275 t278 _ ?side1 ?side2 A19.out).mono ?_
           (case side1=>exact HO_242000.out)
           (case side2=>exact HO274.out)
           rintro e w22 ⟨v276,v279,rfl,ho0,ho1,hb⟩
           refine ⟨_,rfl,?_⟩
           have n0_:=Aside0.mk (Kd.V_below (by (with_reducible repeat (first|apply Kd.V_alloc|apply Kd.V_drewN|apply Kd.V_drew));exact HO_242000.out) hb)
           have n1_:=Aside0.mk (Kd.V_below (by (with_reducible repeat (first|apply Kd.V_alloc|apply Kd.V_drewN|apply Kd.V_drew));exact HO_242001.out) hb)
           have n2_:=Aside0.mk (Kd.V_below (by (with_reducible repeat (first|apply Kd.V_alloc|apply Kd.V_drewN|apply Kd.V_drew));exact HO274.out) hb)
           have n3_:=Aside0.mk (Kd.V_lower (Kd.V_mono (ok':=fun k_=>((P0_0_ k_ ∨ P0_1_ k_) ∨ w.heap.size≤k_)∧k_≠gb241∧k_≠gb242) ho0 (fun k_ hk_=>⟨Or.elim hk_ (fun hs_=>Or.elim hs_ (fun hs_=>hs_.1) (fun hs_=>hs_.1)) (fun hn_=>(.inr (Nat.le_trans (yQ (by repeat (first|(with_reducible first|exact HB.out|apply yA|apply yB|apply yC|refine yD ?_ GE241.out|refine yD ?_ GE242.out)|exact HB.out))) hn_))),Or.elim hk_ (fun hs_=>Or.elim hs_ (fun hs_=>hs_.2.1) (fun hs_=>hs_.2.1)) (fun hn_=>(Kd.freshB (g:=gb241) (o:=.cells #[.slice A0_0 l0_0.length c0_0,.slice A0_1 l0_1.length c0_1] 59 (0,0)) (by (with_reducible repeat (first|refine yE ?_ _|refine yF ?_|refine yG ?_ _));exact BK241.out) k_ hn_)),Or.elim hk_ (fun hs_=>Or.elim hs_ (fun hs_=>hs_.2.2) (fun hs_=>hs_.2.2)) (fun hn_=>(Kd.freshB (g:=gb242) (o:=.cells #[.slice none 0 0,.slice none 0 0] 59 (0,0)) (by (with_reducible repeat (first|refine yE ?_ _|refine yF ?_|refine yG ?_ _));exact BK242.out) k_ hn_))⟩)) (yQ (by repeat (first|(with_reducible first|exact HB.out|apply yA|apply yB|apply yC|refine yD ?_ GE241.out|refine yD ?_ GE242.out)|exact HB.out))))
           have n4_:=Aside0.mk (Kd.V_lower (Kd.V_mono (ok':=fun k_=>((P0_0_ k_ ∨ P0_1_ k_) ∨ w.heap.size≤k_)∧k_≠gb241∧k_≠gb242) ho1 (fun k_ hk_=>⟨Or.elim hk_ (fun hs_=>Or.elim hs_ (fun hs_=>hs_.1) (fun hs_=>hs_.1)) (fun hn_=>(.inr (Nat.le_trans (yQ (by repeat (first|(with_reducible first|exact HB.out|apply yA|apply yB|apply yC|refine yD ?_ GE241.out|refine yD ?_ GE242.out)|exact HB.out))) hn_))),Or.elim hk_ (fun hs_=>Or.elim hs_ (fun hs_=>hs_.2.1) (fun hs_=>hs_.2.1)) (fun hn_=>(Kd.freshB (g:=gb241) (o:=.cells #[.slice A0_0 l0_0.length c0_0,.slice A0_1 l0_1.length c0_1] 59 (0,0)) (by (with_reducible repeat (first|refine yE ?_ _|refine yF ?_|refine yG ?_ _));exact BK241.out) k_ hn_)),Or.elim hk_ (fun hs_=>Or.elim hs_ (fun hs_=>hs_.2.2) (fun hs_=>hs_.2.2)) (fun hn_=>(Kd.freshB (g:=gb242) (o:=.cells #[.slice none 0 0,.slice none 0 0] 59 (0,0)) (by (with_reducible repeat (first|refine yE ?_ _|refine yF ?_|refine yG ?_ _));exact BK242.out) k_ hn_))⟩)) (yQ (by repeat (first|(with_reducible first|exact HB.out|apply yA|apply yB|apply yC|refine yD ?_ GE241.out|refine yD ?_ GE242.out)|exact HB.out))))
           have n5_:=Aside0.mk (blk_below (g:=gb241) (o:=.cells #[.slice A0_0 l0_0.length c0_0,.slice A0_1 l0_1.length c0_1] 59 (0,0)) (by (with_reducible repeat (first|refine yE ?_ _|refine yF ?_|refine yG ?_ _));exact BK241.out) hb)
           have n6_:=Aside0.mk (blk_below (g:=gb242) (o:=.cells #[.slice none 0 0,.slice none 0 0] 59 (0,0)) (by (with_reducible repeat (first|refine yE ?_ _|refine yF ?_|refine yG ?_ _));exact BK242.out) hb)
           have n7_:=Aside0.mk (yP (by repeat (first|(with_reducible first|exact HB.out|apply yA|apply yB|apply yC|refine yD ?_ GE241.out|refine yD ?_ GE242.out)|exact HB.out)) hb)
           clear HO_242000
           clear HO_242001
           clear HO274
           clear BK241
           clear BK242
           clear HB
           have HO_242000:=n0_
           have HO_242001:=n1_
           have HO274:=n2_
           have HO277:=n3_
           have HO280:=n4_
           have BK241:=n5_
           have BK242:=n6_
           have HB:=n7_
           clear n0_ n1_ n2_ n3_ n4_ n5_ n6_ n7_
           (try clear hb)
           (try clear hb2)
           (try clear hk)
           (try clear hi)
           (try clear ho0)
           (try clear ho1)
           obtain ⟨Ao23,co23,eo23⟩:=Kd.V_slice HO277.out
           (first|subst eo23|(injection eo23 with f1_ f2_ f3_;have f4_:=f1_.symm;have f5_:=f3_.symm;clear f1_ f2_ f3_;subst f4_;subst f5_))
           obtain ⟨Ao25,co25,eo25⟩:=Kd.V_slice HO280.out
           (first|subst eo25|(injection eo25 with f1_ f2_ f3_;have f4_:=f1_.symm;have f5_:=f3_.symm;clear f1_ f2_ f3_;subst f4_;subst f5_))
           refine hK.out _ _ ⟨(blk_cell BK241.out 0).trans rfl,(blk_cell BK241.out 1).trans rfl⟩ (fun hHeld=>?_)
           clear hK K
           refine norm_ (a':=?_) ?_ ?_
           rotate_left
           ·show Act.put _ (some 51) _=_
            simp only [Act.put,yK,yL,yM,i64_w,i32_w]
            rfl
           refine one_ (i:=8) (N:=none) #[true,true,true,true,true,true,true,true,true] rfl rfl (one_of HT_.out (by kernel_rfl)) (by decide) (fun K hK=>?_)
           have hs24:w22.cell? ⟨gb242,0,none⟩=some (.slice none 0 0):=(blk_cell BK242.out 0).trans rfl
           have hfs24:=blk_frozen BK242.out 0
           have hns24_0:=NB241_242.out
           have hms24_0:=NB242_241.out
           have hs26:w22.cell? ⟨gb242,1,none⟩=some (.slice none 0 0):=(blk_cell BK242.out 1).trans rfl
           have hfs26:=blk_frozen BK242.out 1
           have hns26_0:=NB241_242.out
           have hms26_0:=NB242_241.out
           refine skip_ (w1:=?_) (by rfl) rfl ?_ ?_
           rotate_left
           ·go_simp
            rfl
           refine hK.out _ _ ⟨((cell_far (p:=⟨gb242,_,none⟩) NB241_242.out _).trans (((cell_far (p:=⟨gb242,_,none⟩) NB241_242.out _).trans (hHeld.1)))),((cell_far (p:=⟨gb242,_,none⟩) NB241_242.out _).trans (((cell_far (p:=⟨gb242,_,none⟩) NB241_242.out _).trans (hHeld.2))))⟩ (fun hHeld=>?_)
           clear hK K
           refine done_ (done_of HT_.out (by kernel_rfl)) ?_
           try go_wp2
           refine bodyPost_ret (results_cell_row rfl _ _ gb242 59 #[.slice Ao23 t275.length co23,.slice Ao25 t278.length co25] (0,0) _ rfl (by (with_reducible repeat (first|refine yE ?_ _|refine yF ?_|refine yG ?_ _));refine blk_put (cs:=#[.slice Ao23 t275.length co23,.slice none 0 0]) ?_ 1 _ rfl;(with_reducible repeat (first|refine yE ?_ _|refine yF ?_|refine yG ?_ _));refine blk_put (cs:=#[.slice none 0 0,.slice none 0 0]) ?_ 0 _ rfl;(with_reducible repeat (first|refine yE ?_ _|refine yF ?_|refine yG ?_ _));exact BK242.out) Try.underlying59 rfl (by kernel_rfl)) rfl ?_
           exact ⟨_,_,by first|rfl|(simp [errW_none,errW_some]<;>rfl)|(simp [*,errW_none,errW_some]<;>rfl)|(simp [errW_none,errW_some];exact ⟨rfl,rfl⟩),by (with_reducible repeat (first|apply Kd.V_alloc|apply Kd.V_drewN|apply Kd.V_drew));exact Kd.V_mono (Kd.V_far (p:=⟨gb242,1,none⟩) (Kd.V_far (p:=⟨gb242,0,none⟩) (Kd.V_mono HO277.out (fun k_ hk=>(⟨hk,hk.2.2⟩:_∧k_≠gb242))) (fun _ hk=>hk.2) (.slice Ao23 t275.length co23)) (fun _ hk=>hk.2) (.slice Ao25 t278.length co25)) (fun _ hk=>hk.1.1),by (with_reducible repeat (first|apply Kd.V_alloc|apply Kd.V_drewN|apply Kd.V_drew));exact Kd.V_mono (Kd.V_far (p:=⟨gb242,1,none⟩) (Kd.V_far (p:=⟨gb242,0,none⟩) (Kd.V_mono HO280.out (fun k_ hk=>(⟨hk,hk.2.2⟩:_∧k_≠gb242))) (fun _ hk=>hk.2) (.slice Ao23 t275.length co23)) (fun _ hk=>hk.2) (.slice Ao25 t278.length co25)) (fun _ hk=>hk.1.1),by repeat (first|(with_reducible first|exact HB.out|apply yA|apply yB|apply yC|refine yD ?_ GE241.out|refine yD ?_ GE242.out)|exact HB.out)⟩
          ·rw [if_neg c18] at H
           exact absurd H (by simp)
         ·rw [if_neg c17] at H
          exact absurd H (by simp)
        ·replace c16:=Bool.eq_false_iff.mpr c16
         subst c16
         have H1:(spec_l1Less.l0 k2 (l0_1.length:Int) (wrap64 (x4_1+1)) l0_0 l0_1)=some (r1,r2):=by rw [if_neg (show ¬ (false=true) by decide)] at H;exact H
         clear H
         have H:=H1
         clear H1
         have H':=Aside0.mk H
         clear H
         go_wp2
         go_roundg k2
         case measure=>have:=HK1.out;have:=HK2.out;omega
         case rel=>exact ⟨(wrap64 (x4_1+1)),(by first|rfl|(simp;done)|(simp [*];done)|(simp [Int.tmod_eq_emod_of_nonneg];done)),H',⟨by have:=HK1.out;have:=HK2.out;omega⟩,⟨by (with_reducible repeat (first|apply Kd.V_alloc|apply Kd.V_drewN|apply Kd.V_drew));exact HO_242000.out⟩,⟨by (with_reducible repeat (first|apply Kd.V_alloc|apply Kd.V_drewN|apply Kd.V_drew));exact HO_242001.out⟩,⟨by (with_reducible repeat (first|refine yE ?_ _|refine yF ?_|refine yG ?_ _));exact BK241.out⟩,⟨by (with_reducible repeat (first|refine yE ?_ _|refine yF ?_|refine yG ?_ _));exact BK242.out⟩,⟨by repeat (first|(with_reducible first|exact HB.out|apply yA|apply yB|apply yC|refine yD ?_ GE241.out|refine yD ?_ GE242.out)|exact HB.out)⟩⟩
   ·rw [if_neg c6] at H
    have c6b0:decide (x4_1<(l0_1.length:Int))=false:=decide_eq_false c6
    clear c6
    by_cases c27:(l0_0.length:Int) > 0
    ·rw [if_pos c27] at H
     have c27b0:decide (0<(l0_0.length:Int))=true:=decide_eq_true c27
     have c27b1:decide (0<l0_0.length)=true:=decide_eq_true (by omega)
     clear c27
     obtain ⟨ji28,hji28⟩:∃ j_:Int,(wrap64 ((l0_0.length:Int) - 1))=j_:=⟨_,rfl⟩
     replace H:(if 0≤(ji28) then (if (ji28)<(l0_0.length:Int) then (if 0≤(wrap64 ((l0_1.length:Int) - 1)) then (if (wrap64 ((l0_1.length:Int) - 1))<(l0_1.length:Int) then (if ((rdOf false l0_0 (ji28)) == (rdOf false l0_1 (wrap64 ((l0_1.length:Int) - 1))))=true then ((some (([rdOf false l0_1 (wrap64 ((l0_1.length:Int) - 1))]:List Bool):List Bool)).bind fun y246=>(if (wrap64 ((l0_1.length:Int) - 1))≤(l0_1.length:Int) then ((some (l0_1.take ((wrap64 ((l0_1.length:Int) - 1)):Int).toNat:List Bool)).bind fun y249=>(if y246.length+y249.length<140737488355328 then (if (ji28)≤(l0_0.length:Int) then ((spec_l1Less.f k1 (l0_0.take ((ji28):Int).toNat) (y246++y249)).bind fun bt262=>(some (bt262.1,bt262.2))) else (none)) else (none))) else (none))) else (some (l0_0,l0_1))) else (none)) else (none)) else (none)) else (none))=some (r1,r2):=by first|(rw [hji28] at H;exact H)|(simp only [hji28] at H ⊢;exact H)
     have hji28w:(IntKind.i64.wrap ((l0_0.length:Int) - 1))=ji28:=(i64_w _).trans hji28
     by_cases c29:0≤(ji28)
     ·rw [if_pos c29] at H
      have c29b0:decide (0≤(ji28))=true:=decide_eq_true c29
      clear c29
      by_cases c30:(ji28)<(l0_0.length:Int)
      ·rw [if_pos c30] at H
       have c30b0:decide ((ji28)<(l0_0.length:Int))=true:=decide_eq_true c30
       clear c30
       obtain ⟨ji31,hji31⟩:∃ j_:Int,(wrap64 ((l0_1.length:Int) - 1))=j_:=⟨_,rfl⟩
       replace H:(if 0≤(ji31) then (if (ji31)<(l0_1.length:Int) then (if ((rdOf false l0_0 (ji28)) == (rdOf false l0_1 (ji31)))=true then ((some (([rdOf false l0_1 (ji31)]:List Bool):List Bool)).bind fun y246=>(if (ji31)≤(l0_1.length:Int) then ((some (l0_1.take ((ji31):Int).toNat:List Bool)).bind fun y249=>(if y246.length+y249.length<140737488355328 then (if (ji28)≤(l0_0.length:Int) then ((spec_l1Less.f k1 (l0_0.take ((ji28):Int).toNat) (y246++y249)).bind fun bt262=>(some (bt262.1,bt262.2))) else (none)) else (none))) else (none))) else (some (l0_0,l0_1))) else (none)) else (none))=some (r1,r2):=by first|(rw [hji31] at H;exact H)|(simp only [hji31] at H ⊢;exact H)
       have hji31w:(IntKind.i64.wrap ((l0_1.length:Int) - 1))=ji31:=(i64_w _).trans hji31
       by_cases c32:0≤(ji31)
       ·rw [if_pos c32] at H
        have c32b0:decide (0≤(ji31))=true:=decide_eq_true c32
        clear c32
        by_cases c33:(ji31)<(l0_1.length:Int)
        ·rw [if_pos c33] at H
         have c33b0:decide ((ji31)<(l0_1.length:Int))=true:=decide_eq_true c33
         clear c33
         by_cases c34:((rdOf false l0_0 (ji28)) == (rdOf false l0_1 (ji31)))=true
         ·rw [if_pos c34] at H
          have c34b0:((rdOf false l0_0 (ji28)) == (rdOf false l0_1 (ji31)))=true:=c34
          (try (have c34b1:decide ((rdOf false l0_0 (ji28))=(rdOf false l0_1 (ji31)))=true:=by simpa using c34))
          (try (have c34b2:((rdOf false l0_0 (ji28)) == (rdOf false l0_1 (ji31)))=true:=by simpa using c34))
          clear c34
          obtain ⟨y246,hy246⟩:∃ y_:List Bool,y_=(([rdOf false l0_1 (ji31)]:List Bool)):=⟨_,rfl⟩
          replace H:(if (ji31)≤(l0_1.length:Int) then ((some (l0_1.take ((ji31):Int).toNat:List Bool)).bind fun y249=>(if y246.length+y249.length<140737488355328 then (if (ji28)≤(l0_0.length:Int) then ((spec_l1Less.f k1 (l0_0.take ((ji28):Int).toNat) (y246++y249)).bind fun bt262=>(some (bt262.1,bt262.2))) else (none)) else (none))) else (none))=some (r1,r2):=by first|(rw [hy246];with_reducible exact H)|(have H2_:=(Option.bind_some _ _).symm.trans H;rw [hy246];with_reducible exact H2_)|(have H2_:=(Option.bind_some _ _).symm.trans H;with_reducible exact H2_)|with_reducible exact H|(rw [hy246];exact H)|exact H
          have Ny246:=Aside0.mk hy246
          clear hy246
          have c35b0:=eq_true (of_decide_eq_true (by first|(with_reducible assumption)|assumption):0≤(ji31))
          by_cases c36:(ji31)≤(l0_1.length:Int)
          ·rw [if_pos c36] at H
           have c36b0:=eq_true c36
           have c36b1:decide ((ji31)≤(l0_1.length:Int))=true:=decide_eq_true c36
           clear c36
           obtain ⟨y249,hy249⟩:∃ y_:List Bool,y_=(l0_1.take ((ji31):Int).toNat):=⟨_,rfl⟩
           replace H:(if y246.length+y249.length<140737488355328 then (if (ji28)≤(l0_0.length:Int) then ((spec_l1Less.f k1 (l0_0.take ((ji28):Int).toNat) (y246++y249)).bind fun bt262=>(some (bt262.1,bt262.2))) else (none)) else (none))=some (r1,r2):=by first|(rw [hy249];with_reducible exact H)|(have H2_:=(Option.bind_some _ _).symm.trans H;rw [hy249];with_reducible exact H2_)|(have H2_:=(Option.bind_some _ _).symm.trans H;with_reducible exact H2_)|with_reducible exact H|(rw [hy249];exact H)|exact H
           have Ny249:=Aside0.mk hy249
           clear hy249
           by_cases c37:y246.length+y249.length<140737488355328
           ·rw [if_pos c37] at H
            have LMc37:=Aside0.mk c37
            clear c37
            obtain ⟨y254,hy254⟩:∃ y_:List Bool,y_=(y246++y249):=⟨_,rfl⟩
            replace H:(if (ji28)≤(l0_0.length:Int) then ((spec_l1Less.f k1 (l0_0.take ((ji28):Int).toNat) y254).bind fun bt262=>(some (bt262.1,bt262.2))) else (none))=some (r1,r2):=by first|(rw [hy254];with_reducible exact H)|(have H2_:=(Option.bind_some _ _).symm.trans H;rw [hy254];with_reducible exact H2_)|(have H2_:=(Option.bind_some _ _).symm.trans H;with_reducible exact H2_)|with_reducible exact H|(rw [hy254];exact H)|exact H
            have Ny254:=Aside0.mk hy254
            clear hy254
            have c38b0:=eq_true (of_decide_eq_true (by first|(with_reducible assumption)|assumption):0≤(ji28))
            by_cases c39:(ji28)≤(l0_0.length:Int)
            ·rw [if_pos c39] at H
             have c39b0:=eq_true c39
             have c39b1:decide ((ji28)≤(l0_0.length:Int))=true:=decide_eq_true c39
             clear c39
             obtain ⟨y257,hy257⟩:∃ y_:List Bool,y_=(l0_0.take ((ji28):Int).toNat):=⟨_,rfl⟩
             replace H:((spec_l1Less.f k1 y257 y254).bind fun bt262=>(some (bt262.1,bt262.2)))=some (r1,r2):=by first|(rw [hy257];with_reducible exact H)|(have H2_:=(Option.bind_some _ _).symm.trans H;rw [hy257];with_reducible exact H2_)|(have H2_:=(Option.bind_some _ _).symm.trans H;with_reducible exact H2_)|with_reducible exact H|(rw [hy257];exact H)|exact H
             have Ny257:=Aside0.mk hy257
             clear hy257
             replace H:=Option.bind_eq_some_iff.mp H
             obtain ⟨⟨t262,t265⟩,A400,H⟩:=H
             replace H:(some (t262,t265))=some (r1,r2):=H
             have A40:=Aside0.mk A400
             clear A400
             simp only [Option.some.injEq,Prod.mk.injEq] at H
             obtain ⟨rfl,rfl⟩:=H
             have hnb41:=NB241_242.out
             have hnc41:=NB242_241.out
             have hcz42_0:wr.cell? ⟨gb241,0,none⟩=some (.slice A0_0 l0_0.length c0_0):=(blk_cell BK241.out 0).trans rfl
             have hcz42_1:wr.cell? ⟨gb241,1,none⟩=some (.slice A0_1 l0_1.length c0_1):=(blk_cell BK241.out 1).trans rfl
             have hfz42_0:=blk_frozen BK241.out 0
             have hfz42_1:=blk_frozen BK241.out 1
             try go_wp2
             have n0_:=Aside0.mk (Kd.V_drew HO_242000.out)
             have n1_:=Aside0.mk (Kd.V_drew HO_242001.out)
             have n2_:=Aside0.mk (yF BK241.out)
             have n3_:=Aside0.mk (yF BK242.out)
             have n4_:=Aside0.mk (yC HB.out)
             clear HO_242000
             clear HO_242001
             clear BK241
             clear BK242
             clear HB
             have HO_242000:=n0_
             have HO_242001:=n1_
             have BK241:=n2_
             have BK242:=n3_
             have HB:=n4_
             clear n0_ n1_ n2_ n3_ n4_
             have p243:0≤((ji28):Int):=of_decide_eq_true (by first|(with_reducible assumption)|assumption)
             have q243:(ji28)<(l0_0.length:Int):=of_decide_eq_true (by first|(with_reducible assumption)|assumption)
             obtain ⟨ad243,e243,hx243_0⟩:=Kd.at_bool (Kd.V_reads' HO_242000.out).2.2 (ji28) p243 q243
             cases e243
             replace p243:=eq_true p243
             replace q243:=eq_true q243
             have p244:0≤((ji31):Int):=of_decide_eq_true (by first|(with_reducible assumption)|assumption)
             have q244:(ji31)<(l0_1.length:Int):=of_decide_eq_true (by first|(with_reducible assumption)|assumption)
             obtain ⟨ad244,e244,hx244_0⟩:=Kd.at_bool (Kd.V_reads' HO_242001.out).2.2 (ji31) p244 q244
             cases e244
             replace p244:=eq_true p244
             replace q244:=eq_true q244
             refine start_ (n:=17) (S:=fun w'=>w'.cell? ⟨gb241,0,none⟩=some (.slice (some ad243) l0_0.length c0_0)∧w'.cell? ⟨gb241,1,none⟩=some (.slice (some ad244) l0_1.length c0_1)∧w'.cell? (ad243.add ((ji28)).toNat)=some (.bool (rdOf false l0_0 (ji28)))∧w'.cell? (ad244.add ((ji31)).toNat)=some (.bool (rdOf false l0_1 (ji31)))) (ds:=[]) #[false,false,false,false,false,false,false,false,false,false,false,false,false,false,false,false,false] (by kernel_rfl) rfl rfl ⟨(blk_cell BK241.out 0).trans rfl,(blk_cell BK241.out 1).trans rfl,hx243_0,hx244_0⟩ (fun hHeld=>?_);refine with_tabW spec_l1Less.tab13 spec_l1Less.bits13 (fun HT_ HW_=>?_)
             generalize wr.drew=w43 at HO_242000 HO_242001 BK241 BK242 HB hx243_0 hx244_0 hHeld ⊢
             refine pure_ (i:=0) (N:=some 55) (v:=?_) (a':=?_) #[true,false,false,false,false,false,false,false,false,false,false,false,false,false,false,false,false] rfl rfl (any_of HT_.out (by kernel_rfl)) (fun _ _ _ h=>h) (Or.inl ⟨by rfl,?_⟩) ?_ ?_
             rotate_left
             ·intro w'
              go_simp
              with_reducible rfl
             rotate_left
             ·simp only [Act.put,yK,yL,yM,i64_w,i32_w]
              rfl
             refine pure_ (i:=1) (N:=some 56) (v:=?_) (a':=?_) #[true,true,false,false,false,false,false,false,false,false,false,false,false,false,false,false,false] rfl rfl (any_of HT_.out (by kernel_rfl)) (fun _ _ _ h=>h) (Or.inl ⟨by rfl,?_⟩) ?_ ?_
             rotate_left
             ·intro w'
              go_simp
              with_reducible rfl
             rotate_left
             ·simp only [Act.put,yK,yL,yM,i64_w,i32_w]
              rfl
             refine pure_ (i:=2) (N:=some 57) (v:=?_) (a':=?_) #[true,true,true,false,false,false,false,false,false,false,false,false,false,false,false,false,false] rfl rfl (any_of HT_.out (by kernel_rfl)) (fun _ _ _ h=>h) (Or.inl ⟨by rfl,?_⟩) ?_ ?_
             rotate_left
             ·intro w'
              go_simp
              with_reducible rfl
             rotate_left
             ·simp only [Act.put,yK,yL,yM,i64_w,i32_w]
              rfl
             refine pure_ (i:=3) (N:=some 58) (v:=?_) (a':=?_) #[true,true,true,true,false,false,false,false,false,false,false,false,false,false,false,false,false] rfl rfl (any_of HT_.out (by kernel_rfl)) (fun _ _ _ h=>h) (Or.inl ⟨by rfl,?_⟩) ?_ ?_
             rotate_left
             ·intro w'
              go_simp
              with_reducible rfl
             rotate_left
             ·simp only [Act.put,yK,yL,yM,i64_w,i32_w]
              rfl
             refine pure_ (i:=5) (N:=some 60) (v:=?_) (a':=?_) #[true,true,true,true,false,true,false,false,false,false,false,false,false,false,false,false,false] rfl rfl (any_of HT_.out (by kernel_rfl)) (fun _ _ _ h=>h) (Or.inl ⟨by rfl,?_⟩) ?_ ?_
             rotate_left
             ·intro w'
              go_simp
              with_reducible rfl
             rotate_left
             ·simp only [Act.put,yK,yL,yM,i64_w,i32_w]
              rfl
             refine pure_ (i:=6) (N:=some 61) (v:=?_) (a':=?_) #[true,true,true,true,false,true,true,false,false,false,false,false,false,false,false,false,false] rfl rfl (any_of HT_.out (by kernel_rfl)) (fun _ _ _ h=>h) (Or.inl ⟨by rfl,?_⟩) ?_ ?_
             rotate_left
             ·intro w'
              go_simp
              with_reducible rfl
             rotate_left
             ·simp only [Act.put,yK,yL,yM,i64_w,i32_w]
              rfl
             refine pure_ (i:=9) (N:=some 64) (v:=?_) (a':=?_) #[true,true,true,true,false,true,true,false,false,true,false,false,false,false,false,false,false] rfl rfl (any_of HT_.out (by kernel_rfl)) (fun _ _ _ h=>h) (Or.inl ⟨by rfl,?_⟩) ?_ ?_
             rotate_left
             ·intro w'
              go_simp
              with_reducible rfl
             rotate_left
             ·simp only [Act.put,yK,yL,yM,i64_w,i32_w]
              rfl
             refine pure_ (i:=11) (N:=some 66) (v:=?_) (a':=?_) #[true,true,true,true,false,true,true,false,false,true,false,true,false,false,false,false,false] rfl rfl (any_of HT_.out (by kernel_rfl)) (fun _ _ _ h=>h) (Or.inl ⟨by rfl,?_⟩) ?_ ?_
             rotate_left
             ·intro w'
              go_simp
              with_reducible rfl
             rotate_left
             ·simp only [Act.put,yK,yL,yM,i64_w,i32_w]
              rfl
             refine pure_ (i:=12) (N:=some 67) (v:=?_) (a':=?_) #[true,true,true,true,false,true,true,false,false,true,false,true,true,false,false,false,false] rfl rfl (any_of HT_.out (by kernel_rfl)) (fun _ _ _ h=>h) (Or.inl ⟨by rfl,?_⟩) ?_ ?_
             rotate_left
             ·intro w'
              go_simp
              with_reducible rfl
             rotate_left
             ·simp only [Act.put,yK,yL,yM,i64_w,i32_w]
              rfl
             refine take_ (i:=4) (N:=some 59) (v:=?_) (a':=?_) #[true,true,true,true,true,true,true,false,false,true,false,true,true,false,false,false,false] rfl rfl (take_ofW HT_.out HW_.out (by kernel_rfl)) (fun _ _ _ h=>h) (Or.inl ⟨by rfl,?_⟩) hHeld ?_ ?_
             rotate_left
             ·rintro w' ⟨s0,s1,s2,s3⟩
              go_simp
              with_reducible rfl
             rotate_left
             ·simp only [Act.put,yK,yL,yM,i64_w,i32_w]
              rfl
             refine pure_ (i:=7) (N:=some 62) (v:=?_) (a':=?_) #[true,true,true,true,true,true,true,true,false,true,false,true,true,false,false,false,false] rfl rfl (any_of HT_.out (by kernel_rfl)) (fun _ _ _ h=>h) (Or.inl ⟨by rfl,?_⟩) ?_ ?_
             rotate_left
             ·intro w'
              go_simp
              with_reducible rfl
             rotate_left
             ·simp only [Act.put,yK,yL,yM,i64_w,i32_w]
              rfl
             refine take_ (i:=8) (N:=some 63) (v:=?_) (a':=?_) #[true,true,true,true,true,true,true,true,true,true,false,true,true,false,false,false,false] rfl rfl (take_ofW HT_.out HW_.out (by kernel_rfl)) (fun _ _ _ h=>h) (Or.inl ⟨by rfl,?_⟩) hHeld ?_ ?_
             rotate_left
             ·rintro w' ⟨s0,s1,s2,s3⟩
              go_simp
              with_reducible rfl
             rotate_left
             ·simp only [Act.put,yK,yL,yM,i64_w,i32_w]
              rfl
             refine take_ (i:=10) (N:=some 65) (v:=?_) (a':=?_) #[true,true,true,true,true,true,true,true,true,true,true,true,true,false,false,false,false] rfl rfl (take_ofW HT_.out HW_.out (by kernel_rfl)) (fun _ _ _ h=>h) (Or.inl ⟨by rfl,?_⟩) hHeld ?_ ?_
             rotate_left
             ·rintro w' ⟨s0,s1,s2,s3⟩
              go_simp
              with_reducible rfl
             rotate_left
             ·simp only [Act.put,yK,yL,yM,i64_w,i32_w]
              rfl
             refine pure_ (i:=13) (N:=some 68) (v:=?_) (a':=?_) #[true,true,true,true,true,true,true,true,true,true,true,true,true,true,false,false,false] rfl rfl (any_of HT_.out (by kernel_rfl)) (fun _ _ _ h=>h) (Or.inl ⟨by rfl,?_⟩) ?_ ?_
             rotate_left
             ·intro w'
              go_simp
              with_reducible rfl
             rotate_left
             ·simp only [Act.put,yK,yL,yM,i64_w,i32_w]
              rfl
             refine take_ (i:=14) (N:=some 69) (v:=?_) (a':=?_) #[true,true,true,true,true,true,true,true,true,true,true,true,true,true,true,false,false] rfl rfl (take_ofW HT_.out HW_.out (by kernel_rfl)) (fun _ _ _ h=>h) (Or.inl ⟨by rfl,?_⟩) hHeld ?_ ?_
             rotate_left
             ·rintro w' ⟨s0,s1,s2,s3⟩
              go_simp
              with_reducible rfl
             rotate_left
             ·simp only [Act.put,yK,yL,yM,i64_w,i32_w]
              rfl
             refine pure_ (i:=15) (N:=some 70) (v:=?_) (a':=?_) #[true,true,true,true,true,true,true,true,true,true,true,true,true,true,true,true,false] rfl rfl (any_of HT_.out (by kernel_rfl)) (fun _ _ _ h=>h) (Or.inl ⟨by rfl,?_⟩) ?_ ?_
             rotate_left
             ·intro w'
              go_simp
              with_reducible rfl
             rotate_left
             ·simp only [Act.put,yK,yL,yM,i64_w,i32_w]
              rfl
             refine pure_ (i:=16) (N:=some 71) (v:=?_) (a':=?_) #[true,true,true,true,true,true,true,true,true,true,true,true,true,true,true,true,true] rfl rfl (any_of HT_.out (by kernel_rfl)) (fun _ _ _ h=>h) (Or.inl ⟨by rfl,?_⟩) ?_ ?_
             rotate_left
             ·intro w'
              go_simp
              with_reducible rfl
             rotate_left
             ·simp only [Act.put,yK,yL,yM,i64_w,i32_w]
              rfl
             refine done_ (done_of HT_.out (by kernel_rfl)) ?_
             try go_wp2
             have n0_:=Aside0.mk (Kd.V_drew HO_242000.out)
             have n1_:=Aside0.mk (Kd.V_drew HO_242001.out)
             have n2_:=Aside0.mk (yF BK241.out)
             have n3_:=Aside0.mk (yF BK242.out)
             have n4_:=Aside0.mk (yC HB.out)
             clear HO_242000
             clear HO_242001
             clear BK241
             clear BK242
             clear HB
             have HO_242000:=n0_
             have HO_242001:=n1_
             have BK241:=n2_
             have BK242:=n3_
             have HB:=n4_
             clear n0_ n1_ n2_ n3_ n4_
             have p245:0≤((ji31):Int):=of_decide_eq_true (by first|(with_reducible assumption)|assumption)
             have q245:(ji31)<(l0_1.length:Int):=of_decide_eq_true (by first|(with_reducible assumption)|assumption)
             obtain ⟨ad245,e245,hx245_0⟩:=Kd.at_bool (Kd.V_reads' HO_242001.out).2.2 (ji31) p245 q245
             obtain rfl:ad244=ad245:=(by injection e245)
             replace p245:=eq_true p245
             replace q245:=eq_true q245
             have q45:((ji31):Int)≤((l0_1.length:Int):Int):=of_decide_eq_true (by first|(with_reducible assumption)|assumption)
             obtain ⟨i045,hi045,_,hsz45,_⟩:=info_parts info4
             have hroom45:l0_1.length≤c0_1:=(Kd.V_reads' HO_242001.out).2.1
             have hC45:Kd.F Kd.bool _ _ (some ad244) l0_1.length l0_1:=(Kd.V_at (base:=w.heap.size) HO_242001.out).2.2
             have hcut45:=cut_to (P:=Try.prog) 46 4 .i64 Try.underlying46 hi045 (some ad244) l0_1.length c0_1 (ji31) (of_decide_eq_true (by first|(with_reducible assumption)|assumption)) q45 hroom45
             have hr45:=Kd.F_take (m:=((ji31):Int).toNat) hC45 (by omega)
             have hy45:y249.length=((ji31):Int).toNat:=(by rw [Ny249.out,List.length_take];omega)
             rw [← Ny249.out] at hr45
             rw [← hy45] at hcut45
             have HO253:=Aside0.mk (show Kd.V Kd.bool 4 _ w.heap.size _ (.slice (some ad244) y249.length c0_1) y249 from Kd.V_mk (by omega) hr45)
             have HC253:=Aside0.mk (show y249.length≤c0_1 from by omega)
             clear hr45 hC45 hroom45 hi045 hsz45
             have KY45:=Aside0.mk hy45
             clear hy45
             replace q45:=eq_true q45
             refine start_ (n:=14) (S:=fun w'=>w'.cell? ⟨gb241,0,none⟩=some (.slice (some ad243) l0_0.length c0_0)∧w'.cell? ⟨gb241,1,none⟩=some (.slice (some ad244) l0_1.length c0_1)∧w'.cell? (ad244.add ((ji31)).toNat)=some (.bool (rdOf false l0_1 (ji31)))) (ds:=[12]) #[false,false,false,false,false,false,false,false,false,false,false,false,false,false] (by kernel_rfl) rfl rfl ⟨(blk_cell BK241.out 0).trans rfl,(blk_cell BK241.out 1).trans rfl,hx245_0⟩ (fun hHeld=>?_);refine with_tabW spec_l1Less.tab14 spec_l1Less.bits14 (fun HT_ HW_=>?_)
             generalize w43.drew=w44 at HO_242000 HO_242001 BK241 BK242 HB HO253 hx245_0 hHeld ⊢
             refine pure_ (i:=0) (N:=some 72) (v:=?_) (a':=?_) #[true,false,false,false,false,false,false,false,false,false,false,false,false,false] rfl rfl (any_of HT_.out (by kernel_rfl)) (fun _ _ _ h=>h) (Or.inl ⟨by rfl,?_⟩) ?_ ?_
             rotate_left
             ·intro w'
              go_simp
              with_reducible rfl
             rotate_left
             ·simp only [Act.put,yK,yL,yM,i64_w,i32_w]
              rfl
             refine pure_ (i:=2) (N:=some 74) (v:=?_) (a':=?_) #[true,false,true,false,false,false,false,false,false,false,false,false,false,false] rfl rfl (any_of HT_.out (by kernel_rfl)) (fun _ _ _ h=>h) (Or.inl ⟨by rfl,?_⟩) ?_ ?_
             rotate_left
             ·intro w'
              go_simp
              with_reducible rfl
             rotate_left
             ·simp only [Act.put,yK,yL,yM,i64_w,i32_w]
              rfl
             refine pure_ (i:=3) (N:=some 75) (v:=?_) (a':=?_) #[true,false,true,true,false,false,false,false,false,false,false,false,false,false] rfl rfl (any_of HT_.out (by kernel_rfl)) (fun _ _ _ h=>h) (Or.inl ⟨by rfl,?_⟩) ?_ ?_
             rotate_left
             ·intro w'
              go_simp
              with_reducible rfl
             rotate_left
             ·simp only [Act.put,yK,yL,yM,i64_w,i32_w]
              rfl
             refine pure_ (i:=7) (N:=some 79) (v:=?_) (a':=?_) #[true,false,true,true,false,false,false,true,false,false,false,false,false,false] rfl rfl (any_of HT_.out (by kernel_rfl)) (fun _ _ _ h=>h) (Or.inl ⟨by rfl,?_⟩) ?_ ?_
             rotate_left
             ·intro w'
              go_simp
              with_reducible rfl
             rotate_left
             ·simp only [Act.put,yK,yL,yM,i64_w,i32_w]
              rfl
             refine pure_ (i:=9) (N:=some 81) (v:=?_) (a':=?_) #[true,false,true,true,false,false,false,true,false,true,false,false,false,false] rfl rfl (any_of HT_.out (by kernel_rfl)) (fun _ _ _ h=>h) (Or.inl ⟨by rfl,?_⟩) ?_ ?_
             rotate_left
             ·intro w'
              go_simp
              with_reducible rfl
             rotate_left
             ·simp only [Act.put,yK,yL,yM,i64_w,i32_w]
              rfl
             refine pure_ (i:=10) (N:=some 82) (v:=?_) (a':=?_) #[true,false,true,true,false,false,false,true,false,true,true,false,false,false] rfl rfl (any_of HT_.out (by kernel_rfl)) (fun _ _ _ h=>h) (Or.inl ⟨by rfl,?_⟩) ?_ ?_
             rotate_left
             ·intro w'
              go_simp
              with_reducible rfl
             rotate_left
             ·simp only [Act.put,yK,yL,yM,i64_w,i32_w]
              rfl
             refine take_ (i:=1) (N:=some 73) (v:=?_) (a':=?_) #[true,true,true,true,false,false,false,true,false,true,true,false,false,false] rfl rfl (take_ofW HT_.out HW_.out (by kernel_rfl)) (fun _ _ _ h=>h) (Or.inl ⟨by rfl,?_⟩) hHeld ?_ ?_
             rotate_left
             ·rintro w' ⟨s0,s1,s2⟩
              go_simp
              with_reducible rfl
             rotate_left
             ·simp only [Act.put,yK,yL,yM,i64_w,i32_w]
              rfl
             refine pure_ (i:=4) (N:=some 76) (v:=?_) (a':=?_) #[true,true,true,true,true,false,false,true,false,true,true,false,false,false] rfl rfl (any_of HT_.out (by kernel_rfl)) (fun _ _ _ h=>h) (Or.inl ⟨by rfl,?_⟩) ?_ ?_
             rotate_left
             ·intro w'
              go_simp
              with_reducible rfl
             rotate_left
             ·simp only [Act.put,yK,yL,yM,i64_w,i32_w]
              rfl
             refine take_ (i:=5) (N:=some 77) (v:=?_) (a':=?_) #[true,true,true,true,true,true,false,true,false,true,true,false,false,false] rfl rfl (take_ofW HT_.out HW_.out (by kernel_rfl)) (fun _ _ _ h=>h) (Or.inl ⟨by rfl,?_⟩) hHeld ?_ ?_
             rotate_left
             ·rintro w' ⟨s0,s1,s2⟩
              go_simp
              with_reducible rfl
             rotate_left
             ·simp only [Act.put,yK,yL,yM,i64_w,i32_w]
              rfl
             refine take_ (i:=8) (N:=some 80) (v:=?_) (a':=?_) #[true,true,true,true,true,true,false,true,true,true,true,false,false,false] rfl rfl (take_ofW HT_.out HW_.out (by kernel_rfl)) (fun _ _ _ h=>h) (Or.inl ⟨by rfl,?_⟩) hHeld ?_ ?_
             rotate_left
             ·rintro w' ⟨s0,s1,s2⟩
              go_simp
              with_reducible rfl
             rotate_left
             ·simp only [Act.put,yK,yL,yM,i64_w,i32_w]
              rfl
             refine pure_ (i:=11) (N:=some 83) (v:=?_) (a':=?_) #[true,true,true,true,true,true,false,true,true,true,true,true,false,false] rfl rfl (any_of HT_.out (by kernel_rfl)) (fun _ _ _ h=>h) (Or.inl ⟨by rfl,?_⟩) ?_ ?_
             rotate_left
             ·intro w'
              go_simp
              with_reducible rfl
             rotate_left
             ·simp only [Act.put,yK,yL,yM,i64_w,i32_w]
              rfl
             refine one_ (i:=6) (N:=some 78) #[true,true,true,true,true,true,true,true,true,true,true,true,false,false] rfl rfl (one_of HT_.out (by kernel_rfl)) (by decide) (fun K hK=>?_)
             refine Kd.R_lit_step Kd.bool _ 4 ?hg (N:=78) ?hd (xs:=([rdOf false l0_1 (ji31)]:List Bool)) (inner:=[.bool (rdOf false l0_1 (ji31))]) (ok:=fun _=>True) (okp:=fun _=>True) ?hr ?hp (fun _ hk=>hk) trivial (Below.refl _ _) (Nat.le_refl _) (by simp) ?_;(case hd=>rfl);(case hg=>rfl);(case hr=>first|(go_simp;done)|(go_simp;rfl));(case hp=>exact (Reps.one (show Kd.M Kd.bool _ _ _ (rdOf false l0_1 (ji31)) [.bool (rdOf false l0_1 (ji31))] from rfl) (Reps.none _ _)))
             intro v247 w46 ho47 hb hg_ hnew_
             have HS2_:=(hb.cell (World.block_lt_of_cell? _ _ (hHeld.2.2))).trans (hHeld.2.2)
             clear hg_ hnew_
             (first|rw [← Ny246.out] at ho47|(simp only [Int.reduceToNat] at ho47;rw [← Ny246.out] at ho47))
             have n0_:=Aside0.mk (Kd.V_elder' (by (with_reducible repeat (first|apply Kd.V_alloc|apply Kd.V_drewN|apply Kd.V_drew));exact HO_242000.out) (Kd.R_base ho47) hb)
             have n1_:=Aside0.mk (Kd.V_elder' (by (with_reducible repeat (first|apply Kd.V_alloc|apply Kd.V_drewN|apply Kd.V_drew));exact HO_242001.out) (Kd.R_base ho47) hb)
             have n2_:=Aside0.mk (Kd.V_elder' (by (with_reducible repeat (first|apply Kd.V_alloc|apply Kd.V_drewN|apply Kd.V_drew));exact HO253.out) (Kd.R_base ho47) hb)
             have n3_:=Aside0.mk (Kd.R_lower (Kd.R_newM (M:=fun k_=>(w.heap.size≤k_)) ho47 (yQ (by repeat (first|(with_reducible first|exact HB.out|apply yA|apply yB|apply yC|refine yD ?_ GE241.out|refine yD ?_ GE242.out)|exact HB.out))) (fun k_ h_=>h_)) (yQ (by repeat (first|(with_reducible first|exact HB.out|apply yA|apply yB|apply yC|refine yD ?_ GE241.out|refine yD ?_ GE242.out)|exact HB.out))))
             have n4_:=Aside0.mk (blk_below (g:=gb241) (o:=.cells #[.slice (some ad243) l0_0.length c0_0,.slice (some ad244) l0_1.length c0_1] 59 (0,0)) (by (with_reducible repeat (first|refine yE ?_ _|refine yF ?_|refine yG ?_ _));exact BK241.out) hb)
             have n5_:=Aside0.mk (blk_below (g:=gb242) (o:=.cells #[.slice none 0 0,.slice none 0 0] 59 (0,0)) (by (with_reducible repeat (first|refine yE ?_ _|refine yF ?_|refine yG ?_ _));exact BK242.out) hb)
             have n6_:=Aside0.mk (yP (by repeat (first|(with_reducible first|exact HB.out|apply yA|apply yB|apply yC|refine yD ?_ GE241.out|refine yD ?_ GE242.out)|exact HB.out)) hb)
             clear HO_242000
             clear HO_242001
             clear HO253
             clear BK241
             clear BK242
             clear HB
             have HO_242000:=n0_
             have HO_242001:=n1_
             have HO253:=n2_
             have HO248:=n3_
             have BK241:=n4_
             have BK242:=n5_
             have HB:=n6_
             clear n0_ n1_ n2_ n3_ n4_ n5_ n6_
             clear hb ho47
             refine hK.out _ _ ⟨(blk_cell BK241.out 0).trans rfl,(blk_cell BK241.out 1).trans rfl,HS2_⟩ (fun hHeld=>?_)
             clear hK K
             refine norm_ (a':=?_) ?_ ?_
             rotate_left
             ·show Act.put _ (some 78) _=_
              simp only [Act.put,yK,yL,yM,i64_w,i32_w]
              rfl
             refine last_ (i:=12) (N:=some 84) #[true,true,true,true,true,true,true,true,true,true,true,true,true,false] rfl rfl (one_of HT_.out (by kernel_rfl)) (by decide) (fun K hK=>?_)
             refine Kd.R_append_rows_step Kd.bool (w0:=w) w.heap.size (by rfl) (.tmp 78) (.tmp 83) 46 4 (.bool false) 1 rfl Try.underlying46 info4 rfl (by decide) (by omega) v247 y246 y249 _ _ _ (fun k_=>(w.heap.size≤k_)) (fun _=>False) rfl rfl ?aO ?aR (fun _ _ h=>h) (fun _ h=>h.elim) ?aF ?aB ?aS ?aL ?_
             (case aR=>repeat (first|exact (Kd.V_reads' HO253.out).2.2|(with_reducible refine Kd.C_alloc ?_ _)|(with_reducible refine Kd.C_drewN ?_ _)|(with_reducible refine Kd.C_drew ?_)))
             (case aB=>exact (by repeat (first|(with_reducible first|exact HB.out|apply yA|apply yB|apply yC|refine yD ?_ GE241.out|refine yD ?_ GE242.out)|exact HB.out)))
             (case aF=>exact (fun k_ hk=>(Nat.le_trans (yQ (by repeat (first|(with_reducible first|exact HB.out|apply yA|apply yB|apply yC|refine yD ?_ GE241.out|refine yD ?_ GE242.out)|exact HB.out))) hk)))
             (case aO=>exact (by (with_reducible repeat (first|apply yH|apply yI|apply yJ));exact Kd.R_mono HO248.out (fun _ hk=>hk.1)))
             (case aS=>exact (yQ (by repeat (first|(with_reducible first|exact HB.out|apply yA|apply yB|apply yC|refine yD ?_ GE241.out|refine yD ?_ GE242.out)|exact HB.out))))
             (case aL=>have:=LMc37.out;omega)
             intro v255 w48 ho hb hg hat
             rw [← Ny254.out] at ho
             have n0_:=Aside0.mk (Kd.V_afterv (ok:=(fun k_=>((P0_0_ k_ ∨ P0_1_ k_) ∨ w.heap.size≤k_)∧k_≠gb241∧k_≠gb242)) (by (with_reducible repeat (first|apply Kd.V_alloc|apply Kd.V_drewN|apply Kd.V_drew));exact HO_242000.out) hg hat)
             have n1_:=Aside0.mk (Kd.V_afterv (ok:=(fun k_=>((P0_0_ k_ ∨ P0_1_ k_) ∨ w.heap.size≤k_)∧k_≠gb241∧k_≠gb242)) (by (with_reducible repeat (first|apply Kd.V_alloc|apply Kd.V_drewN|apply Kd.V_drew));exact HO_242001.out) hg hat)
             have n2_:=Aside0.mk (blk_grown (g:=gb241) (o:=.cells #[.slice (some ad243) l0_0.length c0_0,.slice (some ad244) l0_1.length c0_1] 59 (0,0)) (by (with_reducible repeat (first|refine yE ?_ _|refine yF ?_|refine yG ?_ _));exact BK241.out) hg (Kd.R_ne HO248.out BK241.out (by decide)))
             have n3_:=Aside0.mk (blk_grown (g:=gb242) (o:=.cells #[.slice none 0 0,.slice none 0 0] 59 (0,0)) (by (with_reducible repeat (first|refine yE ?_ _|refine yF ?_|refine yG ?_ _));exact BK242.out) hg (Kd.R_ne HO248.out BK242.out (by decide)))
             have n4_:=Aside0.mk (Kd.V_afterv (ok:=(fun k_=>((P0_0_ k_ ∨ P0_1_ k_) ∨ w.heap.size≤k_)∧k_≠gb241∧k_≠gb242)) (by (with_reducible repeat (first|apply Kd.V_alloc|apply Kd.V_drewN|apply Kd.V_drew));exact HO253.out) hg hat)
             have n5_:=Aside0.mk (hb)
             have n6_:=Aside0.mk (ho)
             clear HO_242000
             clear HO_242001
             clear BK241
             clear BK242
             clear HO253
             clear HB
             clear HO248
             have HO_242000:=n0_
             have HO_242001:=n1_
             have BK241:=n2_
             have BK242:=n3_
             have HO253:=n4_
             have HB:=n5_
             have HO256:=n6_
             clear n0_ n1_ n2_ n3_ n4_ n5_ n6_
             clear ho hb hg hat
             refine hK.out _ _ ?_
             clear hK K
             refine norm_ (a':=?_) ?_ ?_
             rotate_left
             ·show Act.put _ (some 84) _=_
              simp only [Act.put,yK,yL,yM,i64_w,i32_w]
              rfl
             refine pure_ (i:=13) (N:=some 8) (v:=?_) (a':=?_) #[true,true,true,true,true,true,true,true,true,true,true,true,true,true] rfl rfl (any_of HT_.out (by kernel_rfl)) (fun _ _ _ h=>h) (Or.inl ⟨by rfl,?_⟩) ?_ ?_
             rotate_left
             ·intro w'
              go_simp
              with_reducible rfl
             rotate_left
             ·simp only [Act.put,yK,yL,yM,i64_w,i32_w]
              rfl
             refine done_ (done_of HT_.out (by kernel_rfl)) ?_
             have hcz49_0:w48.cell? ⟨gb241,0,none⟩=some (.slice (some ad243) l0_0.length c0_0):=(blk_cell BK241.out 0).trans rfl
             have hcz49_1:w48.cell? ⟨gb241,1,none⟩=some (.slice (some ad244) l0_1.length c0_1):=(blk_cell BK241.out 1).trans rfl
             have hfz49_0:=blk_frozen BK241.out 0
             have hfz49_1:=blk_frozen BK241.out 1
             have q50:((ji28):Int)≤((l0_0.length:Int):Int):=of_decide_eq_true (by first|(with_reducible assumption)|assumption)
             obtain ⟨i050,hi050,_,hsz50,_⟩:=info_parts info4
             have hroom50:l0_0.length≤c0_0:=(Kd.V_reads' HO_242000.out).2.1
             have hC50:Kd.F Kd.bool _ _ (some ad243) l0_0.length l0_0:=(Kd.V_at (base:=w.heap.size) HO_242000.out).2.2
             have hcut50:=cut_to (P:=Try.prog) 46 4 .i64 Try.underlying46 hi050 (some ad243) l0_0.length c0_0 (ji28) (of_decide_eq_true (by first|(with_reducible assumption)|assumption)) q50 hroom50
             have hr50:=Kd.F_take (m:=((ji28):Int).toNat) hC50 (by omega)
             have hy50:y257.length=((ji28):Int).toNat:=(by rw [Ny257.out,List.length_take];omega)
             rw [← Ny257.out] at hr50
             rw [← hy50] at hcut50
             have HO261:=Aside0.mk (show Kd.V Kd.bool 4 _ w.heap.size _ (.slice (some ad243) y257.length c0_0) y257 from Kd.V_mk (by omega) hr50)
             have HC261:=Aside0.mk (show y257.length≤c0_0 from by omega)
             clear hr50 hC50 hroom50 hi050 hsz50
             have KY50:=Aside0.mk hy50
             clear hy50
             replace q50:=eq_true q50
             obtain ⟨Ao51,co51,eo51⟩:=Kd.R_slice HO256.out
             subst eo51
             try go_wp2_with (first|((with_reducible refine gate_callee (f:=61) rfl ?_);refine goesL_ (some 92) rfl rfl Try.func61 (by kernel_rfl) rfl #[.agg #[.slice (some ad243) y257.length c0_0,.slice Ao51 y254.length co51]] rfl (by (try simp only [List.map_toArray,List.map_cons,List.map_nil]);first|done|rfl|(simp only [List.length_drop,List.length_take];rfl)) ?_;(with_reducible refine (ih k1 (by have:=HK1.out;omega) (fun k_=>((((P0_0_ k_ ∨ P0_1_ k_) ∨ w.heap.size≤k_)∧(k_≠gb241∧k_≠gb242))∧some k_≠(.slice Ao51 y254.length co51:Value).ownBlock)) _ _ y257 (fun k_=>some k_=(.slice Ao51 y254.length co51:Value).ownBlock) _ _ y254 t262 t265 _ ?side1 ?side2 A40.out).mono ?_);(case side1=>exact HO261.out);(case side2=>exact Kd.R_V (Kd.R_tight rfl (Kd.R_types (Kd.R_types (HO256.out) BK241.out (by decide)) BK242.out (by decide))));rintro e w52 ⟨v263,v266,rfl,ho0,ho1,hb⟩;refine ⟨_,rfl,?_⟩;have n0_:=Aside0.mk (Kd.V_below (by (with_reducible repeat (first|apply Kd.V_alloc|apply Kd.V_drewN|apply Kd.V_drew));exact HO_242000.out) hb);have n1_:=Aside0.mk (Kd.V_below (by (with_reducible repeat (first|apply Kd.V_alloc|apply Kd.V_drewN|apply Kd.V_drew));exact HO_242001.out) hb);have n2_:=Aside0.mk (Kd.V_below (by (with_reducible repeat (first|apply Kd.V_alloc|apply Kd.V_drewN|apply Kd.V_drew));exact HO253.out) hb);have n3_:=Aside0.mk (Kd.R_below (by (with_reducible repeat (first|apply yH|apply yI|apply yJ));exact HO256.out) hb);have n4_:=Aside0.mk (Kd.V_below (by (with_reducible repeat (first|apply Kd.V_alloc|apply Kd.V_drewN|apply Kd.V_drew));exact HO261.out) hb);have n5_:=Aside0.mk (Kd.V_lower (Kd.V_mono (ok':=fun k_=>((P0_0_ k_ ∨ P0_1_ k_) ∨ w.heap.size≤k_)∧k_≠gb241∧k_≠gb242) ho0 (fun k_ hk_=>⟨Or.elim hk_ (fun hs_=>Or.elim hs_ (fun hs_=>hs_.1.1) (fun hs_=>(.inr (((Kd.R_types (Kd.R_types (HO256.out) BK241.out (by decide)) BK242.out (by decide)).1 k_ hs_.symm).1.1)))) (fun hn_=>(.inr (Nat.le_trans (yQ (by repeat (first|(with_reducible first|exact HB.out|apply yA|apply yB|apply yC|refine yD ?_ GE241.out|refine yD ?_ GE242.out)|exact HB.out))) hn_))),Or.elim hk_ (fun hs_=>Or.elim hs_ (fun hs_=>hs_.1.2.1) (fun hs_=>((Kd.R_types (Kd.R_types (HO256.out) BK241.out (by decide)) BK242.out (by decide)).1 k_ hs_.symm).1.2)) (fun hn_=>(Kd.freshB (g:=gb241) (o:=.cells #[.slice (some ad243) l0_0.length c0_0,.slice (some ad244) l0_1.length c0_1] 59 (0,0)) (by (with_reducible repeat (first|refine yE ?_ _|refine yF ?_|refine yG ?_ _));exact BK241.out) k_ hn_)),Or.elim hk_ (fun hs_=>Or.elim hs_ (fun hs_=>hs_.1.2.2) (fun hs_=>((Kd.R_types (Kd.R_types (HO256.out) BK241.out (by decide)) BK242.out (by decide)).1 k_ hs_.symm).2)) (fun hn_=>(Kd.freshB (g:=gb242) (o:=.cells #[.slice none 0 0,.slice none 0 0] 59 (0,0)) (by (with_reducible repeat (first|refine yE ?_ _|refine yF ?_|refine yG ?_ _));exact BK242.out) k_ hn_))⟩)) (yQ (by repeat (first|(with_reducible first|exact HB.out|apply yA|apply yB|apply yC|refine yD ?_ GE241.out|refine yD ?_ GE242.out)|exact HB.out))));have n6_:=Aside0.mk (Kd.V_lower (Kd.V_mono (ok':=fun k_=>((P0_0_ k_ ∨ P0_1_ k_) ∨ w.heap.size≤k_)∧k_≠gb241∧k_≠gb242) ho1 (fun k_ hk_=>⟨Or.elim hk_ (fun hs_=>Or.elim hs_ (fun hs_=>hs_.1.1) (fun hs_=>(.inr (((Kd.R_types (Kd.R_types (HO256.out) BK241.out (by decide)) BK242.out (by decide)).1 k_ hs_.symm).1.1)))) (fun hn_=>(.inr (Nat.le_trans (yQ (by repeat (first|(with_reducible first|exact HB.out|apply yA|apply yB|apply yC|refine yD ?_ GE241.out|refine yD ?_ GE242.out)|exact HB.out))) hn_))),Or.elim hk_ (fun hs_=>Or.elim hs_ (fun hs_=>hs_.1.2.1) (fun hs_=>((Kd.R_types (Kd.R_types (HO256.out) BK241.out (by decide)) BK242.out (by decide)).1 k_ hs_.symm).1.2)) (fun hn_=>(Kd.freshB (g:=gb241) (o:=.cells #[.slice (some ad243) l0_0.length c0_0,.slice (some ad244) l0_1.length c0_1] 59 (0,0)) (by (with_reducible repeat (first|refine yE ?_ _|refine yF ?_|refine yG ?_ _));exact BK241.out) k_ hn_)),Or.elim hk_ (fun hs_=>Or.elim hs_ (fun hs_=>hs_.1.2.2) (fun hs_=>((Kd.R_types (Kd.R_types (HO256.out) BK241.out (by decide)) BK242.out (by decide)).1 k_ hs_.symm).2)) (fun hn_=>(Kd.freshB (g:=gb242) (o:=.cells #[.slice none 0 0,.slice none 0 0] 59 (0,0)) (by (with_reducible repeat (first|refine yE ?_ _|refine yF ?_|refine yG ?_ _));exact BK242.out) k_ hn_))⟩)) (yQ (by repeat (first|(with_reducible first|exact HB.out|apply yA|apply yB|apply yC|refine yD ?_ GE241.out|refine yD ?_ GE242.out)|exact HB.out))));have n7_:=Aside0.mk (blk_below (g:=gb241) (o:=.cells #[.slice (some ad243) l0_0.length c0_0,.slice (some ad244) l0_1.length c0_1] 59 (0,0)) (by (with_reducible repeat (first|refine yE ?_ _|refine yF ?_|refine yG ?_ _));exact BK241.out) hb);have n8_:=Aside0.mk (blk_below (g:=gb242) (o:=.cells #[.slice none 0 0,.slice none 0 0] 59 (0,0)) (by (with_reducible repeat (first|refine yE ?_ _|refine yF ?_|refine yG ?_ _));exact BK242.out) hb);have n9_:=Aside0.mk (yP (by repeat (first|(with_reducible first|exact HB.out|apply yA|apply yB|apply yC|refine yD ?_ GE241.out|refine yD ?_ GE242.out)|exact HB.out)) hb);clear HO_242000;clear HO_242001;clear HO253;clear HO256;clear HO261;clear BK241;clear BK242;clear HB;have HO_242000:=n0_;have HO_242001:=n1_;have HO253:=n2_;have HO256:=n3_;have HO261:=n4_;have HO264:=n5_;have HO267:=n6_;have BK241:=n7_;have BK242:=n8_;have HB:=n9_;clear n0_ n1_ n2_ n3_ n4_ n5_ n6_ n7_ n8_ n9_;(try clear hb);(try clear hb2);(try clear hk);(try clear hi);(try clear ho0);(try clear ho1);obtain ⟨Ao53,co53,eo53⟩:=Kd.V_slice HO264.out;subst eo53;have hcz54_0:w52.cell? ⟨gb242,0,none⟩=some (.slice none 0 0):=(blk_cell BK242.out 0).trans rfl;have hcz54_1:w52.cell? ⟨gb242,1,none⟩=some (.slice none 0 0):=(blk_cell BK242.out 1).trans rfl;have hfz54_0:=blk_frozen BK242.out 0;have hfz54_1:=blk_frozen BK242.out 1;obtain ⟨Ao55,co55,eo55⟩:=Kd.V_slice HO267.out;subst eo55))
             refine bodyPost_ret (results_cell_row rfl _ _ gb242 59 #[.slice Ao53 t262.length co53,.slice Ao55 t265.length co55] (0,0) _ rfl (by (with_reducible repeat (first|refine yE ?_ _|refine yF ?_|refine yG ?_ _));refine blk_put (cs:=#[.slice Ao53 t262.length co53,.slice none 0 0]) ?_ 1 _ rfl;(with_reducible repeat (first|refine yE ?_ _|refine yF ?_|refine yG ?_ _));refine blk_put (cs:=#[.slice none 0 0,.slice none 0 0]) ?_ 0 _ rfl;(with_reducible repeat (first|refine yE ?_ _|refine yF ?_|refine yG ?_ _));exact BK242.out) Try.underlying59 rfl (by kernel_rfl)) rfl ?_
             exact ⟨_,_,by first|rfl|(simp [errW_none,errW_some]<;>rfl)|(simp only [← hji28,← hji31];first|rfl|(simp [errW_none,errW_some]<;>rfl))|(simp [*,errW_none,errW_some]<;>rfl),by (with_reducible repeat (first|apply Kd.V_alloc|apply Kd.V_drewN|apply Kd.V_drew));exact Kd.V_mono (Kd.V_far (p:=⟨gb242,1,none⟩) (Kd.V_far (p:=⟨gb242,0,none⟩) (Kd.V_mono HO264.out (fun k_ hk=>(⟨hk,hk.2.2⟩:_∧k_≠gb242))) (fun _ hk=>hk.2) (.slice Ao53 t262.length co53)) (fun _ hk=>hk.2) (.slice Ao55 t265.length co55)) (fun _ hk=>hk.1.1),by (with_reducible repeat (first|apply Kd.V_alloc|apply Kd.V_drewN|apply Kd.V_drew));exact Kd.V_mono (Kd.V_far (p:=⟨gb242,1,none⟩) (Kd.V_far (p:=⟨gb242,0,none⟩) (Kd.V_mono HO267.out (fun k_ hk=>(⟨hk,hk.2.2⟩:_∧k_≠gb242))) (fun _ hk=>hk.2) (.slice Ao53 t262.length co53)) (fun _ hk=>hk.2) (.slice Ao55 t265.length co55)) (fun _ hk=>hk.1.1),by repeat (first|(with_reducible first|exact HB.out|apply yA|apply yB|apply yC|refine yD ?_ GE241.out|refine yD ?_ GE242.out)|exact HB.out)⟩
            ·rw [if_neg c39] at H
             exact absurd H (by simp)
           ·rw [if_neg c37] at H
            exact absurd H (by simp)
          ·rw [if_neg c36] at H
           exact absurd H (by simp)
         ·rw [if_neg c34] at H
          have c34b0:((rdOf false l0_0 (ji28)) == (rdOf false l0_1 (ji31)))=false:=by simpa using c34
          (try (have c34b1:decide ((rdOf false l0_0 (ji28))=(rdOf false l0_1 (ji31)))=false:=by simpa using c34))
          (try (have c34b2:((rdOf false l0_0 (ji28)) == (rdOf false l0_1 (ji31)))=false:=by simpa using c34))
          (try (have c34b3:¬ ((rdOf false l0_0 (ji28))=(rdOf false l0_1 (ji31))):=by simpa using c34))
          clear c34
          simp only [Option.some.injEq,Prod.mk.injEq] at H
          obtain ⟨rfl,rfl⟩:=H
          have hnb56:=NB241_242.out
          have hnc56:=NB242_241.out
          have hcz57_0:wr.cell? ⟨gb241,0,none⟩=some (.slice A0_0 l0_0.length c0_0):=(blk_cell BK241.out 0).trans rfl
          have hcz57_1:wr.cell? ⟨gb241,1,none⟩=some (.slice A0_1 l0_1.length c0_1):=(blk_cell BK241.out 1).trans rfl
          have hfz57_0:=blk_frozen BK241.out 0
          have hfz57_1:=blk_frozen BK241.out 1
          try go_wp2
          have n0_:=Aside0.mk (Kd.V_drew HO_242000.out)
          have n1_:=Aside0.mk (Kd.V_drew HO_242001.out)
          have n2_:=Aside0.mk (yF BK241.out)
          have n3_:=Aside0.mk (yF BK242.out)
          have n4_:=Aside0.mk (yC HB.out)
          clear HO_242000
          clear HO_242001
          clear BK241
          clear BK242
          clear HB
          have HO_242000:=n0_
          have HO_242001:=n1_
          have BK241:=n2_
          have BK242:=n3_
          have HB:=n4_
          clear n0_ n1_ n2_ n3_ n4_
          have p243:0≤((ji28):Int):=of_decide_eq_true (by first|(with_reducible assumption)|assumption)
          have q243:(ji28)<(l0_0.length:Int):=of_decide_eq_true (by first|(with_reducible assumption)|assumption)
          obtain ⟨ad243,e243,hx243_0⟩:=Kd.at_bool (Kd.V_reads' HO_242000.out).2.2 (ji28) p243 q243
          cases e243
          replace p243:=eq_true p243
          replace q243:=eq_true q243
          have p244:0≤((ji31):Int):=of_decide_eq_true (by first|(with_reducible assumption)|assumption)
          have q244:(ji31)<(l0_1.length:Int):=of_decide_eq_true (by first|(with_reducible assumption)|assumption)
          obtain ⟨ad244,e244,hx244_0⟩:=Kd.at_bool (Kd.V_reads' HO_242001.out).2.2 (ji31) p244 q244
          cases e244
          replace p244:=eq_true p244
          replace q244:=eq_true q244
          refine start_ (n:=17) (S:=fun w'=>w'.cell? ⟨gb241,0,none⟩=some (.slice (some ad243) l0_0.length c0_0)∧w'.cell? ⟨gb241,1,none⟩=some (.slice (some ad244) l0_1.length c0_1)∧w'.cell? (ad243.add ((ji28)).toNat)=some (.bool (rdOf false l0_0 (ji28)))∧w'.cell? (ad244.add ((ji31)).toNat)=some (.bool (rdOf false l0_1 (ji31)))) (ds:=[]) #[false,false,false,false,false,false,false,false,false,false,false,false,false,false,false,false,false] (by kernel_rfl) rfl rfl ⟨(blk_cell BK241.out 0).trans rfl,(blk_cell BK241.out 1).trans rfl,hx243_0,hx244_0⟩ (fun hHeld=>?_);refine with_tabW spec_l1Less.tab13 spec_l1Less.bits13 (fun HT_ HW_=>?_)
          generalize wr.drew=w58 at HO_242000 HO_242001 BK241 BK242 HB hx243_0 hx244_0 hHeld ⊢
          refine pure_ (i:=0) (N:=some 55) (v:=?_) (a':=?_) #[true,false,false,false,false,false,false,false,false,false,false,false,false,false,false,false,false] rfl rfl (any_of HT_.out (by kernel_rfl)) (fun _ _ _ h=>h) (Or.inl ⟨by rfl,?_⟩) ?_ ?_
          rotate_left
          ·intro w'
           go_simp
           with_reducible rfl
          rotate_left
          ·simp only [Act.put,yK,yL,yM,i64_w,i32_w]
           rfl
          refine pure_ (i:=1) (N:=some 56) (v:=?_) (a':=?_) #[true,true,false,false,false,false,false,false,false,false,false,false,false,false,false,false,false] rfl rfl (any_of HT_.out (by kernel_rfl)) (fun _ _ _ h=>h) (Or.inl ⟨by rfl,?_⟩) ?_ ?_
          rotate_left
          ·intro w'
           go_simp
           with_reducible rfl
          rotate_left
          ·simp only [Act.put,yK,yL,yM,i64_w,i32_w]
           rfl
          refine pure_ (i:=2) (N:=some 57) (v:=?_) (a':=?_) #[true,true,true,false,false,false,false,false,false,false,false,false,false,false,false,false,false] rfl rfl (any_of HT_.out (by kernel_rfl)) (fun _ _ _ h=>h) (Or.inl ⟨by rfl,?_⟩) ?_ ?_
          rotate_left
          ·intro w'
           go_simp
           with_reducible rfl
          rotate_left
          ·simp only [Act.put,yK,yL,yM,i64_w,i32_w]
           rfl
          refine pure_ (i:=3) (N:=some 58) (v:=?_) (a':=?_) #[true,true,true,true,false,false,false,false,false,false,false,false,false,false,false,false,false] rfl rfl (any_of HT_.out (by kernel_rfl)) (fun _ _ _ h=>h) (Or.inl ⟨by rfl,?_⟩) ?_ ?_
          rotate_left
          ·intro w'
           go_simp
           with_reducible rfl
          rotate_left
          ·simp only [Act.put,yK,yL,yM,i64_w,i32_w]
           rfl
          refine pure_ (i:=5) (N:=some 60) (v:=?_) (a':=?_) #[true,true,true,true,false,true,false,false,false,false,false,false,false,false,false,false,false] rfl rfl (any_of HT_.out (by kernel_rfl)) (fun _ _ _ h=>h) (Or.inl ⟨by rfl,?_⟩) ?_ ?_
          rotate_left
          ·intro w'
           go_simp
           with_reducible rfl
          rotate_left
          ·simp only [Act.put,yK,yL,yM,i64_w,i32_w]
           rfl
          refine pure_ (i:=6) (N:=some 61) (v:=?_) (a':=?_) #[true,true,true,true,false,true,true,false,false,false,false,false,false,false,false,false,false] rfl rfl (any_of HT_.out (by kernel_rfl)) (fun _ _ _ h=>h) (Or.inl ⟨by rfl,?_⟩) ?_ ?_
          rotate_left
          ·intro w'
           go_simp
           with_reducible rfl
          rotate_left
          ·simp only [Act.put,yK,yL,yM,i64_w,i32_w]
           rfl
          refine pure_ (i:=9) (N:=some 64) (v:=?_) (a':=?_) #[true,true,true,true,false,true,true,false,false,true,false,false,false,false,false,false,false] rfl rfl (any_of HT_.out (by kernel_rfl)) (fun _ _ _ h=>h) (Or.inl ⟨by rfl,?_⟩) ?_ ?_
          rotate_left
          ·intro w'
           go_simp
           with_reducible rfl
          rotate_left
          ·simp only [Act.put,yK,yL,yM,i64_w,i32_w]
           rfl
          refine pure_ (i:=11) (N:=some 66) (v:=?_) (a':=?_) #[true,true,true,true,false,true,true,false,false,true,false,true,false,false,false,false,false] rfl rfl (any_of HT_.out (by kernel_rfl)) (fun _ _ _ h=>h) (Or.inl ⟨by rfl,?_⟩) ?_ ?_
          rotate_left
          ·intro w'
           go_simp
           with_reducible rfl
          rotate_left
          ·simp only [Act.put,yK,yL,yM,i64_w,i32_w]
           rfl
          refine pure_ (i:=12) (N:=some 67) (v:=?_) (a':=?_) #[true,true,true,true,false,true,true,false,false,true,false,true,true,false,false,false,false] rfl rfl (any_of HT_.out (by kernel_rfl)) (fun _ _ _ h=>h) (Or.inl ⟨by rfl,?_⟩) ?_ ?_
          rotate_left
          ·intro w'
           go_simp
           with_reducible rfl
          rotate_left
          ·simp only [Act.put,yK,yL,yM,i64_w,i32_w]
           rfl
          refine take_ (i:=4) (N:=some 59) (v:=?_) (a':=?_) #[true,true,true,true,true,true,true,false,false,true,false,true,true,false,false,false,false] rfl rfl (take_ofW HT_.out HW_.out (by kernel_rfl)) (fun _ _ _ h=>h) (Or.inl ⟨by rfl,?_⟩) hHeld ?_ ?_
          rotate_left
          ·rintro w' ⟨s0,s1,s2,s3⟩
           go_simp
           with_reducible rfl
          rotate_left
          ·simp only [Act.put,yK,yL,yM,i64_w,i32_w]
           rfl
          refine pure_ (i:=7) (N:=some 62) (v:=?_) (a':=?_) #[true,true,true,true,true,true,true,true,false,true,false,true,true,false,false,false,false] rfl rfl (any_of HT_.out (by kernel_rfl)) (fun _ _ _ h=>h) (Or.inl ⟨by rfl,?_⟩) ?_ ?_
          rotate_left
          ·intro w'
           go_simp
           with_reducible rfl
          rotate_left
          ·simp only [Act.put,yK,yL,yM,i64_w,i32_w]
           rfl
          refine take_ (i:=8) (N:=some 63) (v:=?_) (a':=?_) #[true,true,true,true,true,true,true,true,true,true,false,true,true,false,false,false,false] rfl rfl (take_ofW HT_.out HW_.out (by kernel_rfl)) (fun _ _ _ h=>h) (Or.inl ⟨by rfl,?_⟩) hHeld ?_ ?_
          rotate_left
          ·rintro w' ⟨s0,s1,s2,s3⟩
           go_simp
           with_reducible rfl
          rotate_left
          ·simp only [Act.put,yK,yL,yM,i64_w,i32_w]
           rfl
          refine take_ (i:=10) (N:=some 65) (v:=?_) (a':=?_) #[true,true,true,true,true,true,true,true,true,true,true,true,true,false,false,false,false] rfl rfl (take_ofW HT_.out HW_.out (by kernel_rfl)) (fun _ _ _ h=>h) (Or.inl ⟨by rfl,?_⟩) hHeld ?_ ?_
          rotate_left
          ·rintro w' ⟨s0,s1,s2,s3⟩
           go_simp
           with_reducible rfl
          rotate_left
          ·simp only [Act.put,yK,yL,yM,i64_w,i32_w]
           rfl
          refine pure_ (i:=13) (N:=some 68) (v:=?_) (a':=?_) #[true,true,true,true,true,true,true,true,true,true,true,true,true,true,false,false,false] rfl rfl (any_of HT_.out (by kernel_rfl)) (fun _ _ _ h=>h) (Or.inl ⟨by rfl,?_⟩) ?_ ?_
          rotate_left
          ·intro w'
           go_simp
           with_reducible rfl
          rotate_left
          ·simp only [Act.put,yK,yL,yM,i64_w,i32_w]
           rfl
          refine take_ (i:=14) (N:=some 69) (v:=?_) (a':=?_) #[true,true,true,true,true,true,true,true,true,true,true,true,true,true,true,false,false] rfl rfl (take_ofW HT_.out HW_.out (by kernel_rfl)) (fun _ _ _ h=>h) (Or.inl ⟨by rfl,?_⟩) hHeld ?_ ?_
          rotate_left
          ·rintro w' ⟨s0,s1,s2,s3⟩
           go_simp
           with_reducible rfl
          rotate_left
          ·simp only [Act.put,yK,yL,yM,i64_w,i32_w]
           rfl
          refine pure_ (i:=15) (N:=some 70) (v:=?_) (a':=?_) #[true,true,true,true,true,true,true,true,true,true,true,true,true,true,true,true,false] rfl rfl (any_of HT_.out (by kernel_rfl)) (fun _ _ _ h=>h) (Or.inl ⟨by rfl,?_⟩) ?_ ?_
          rotate_left
          ·intro w'
           go_simp
           with_reducible rfl
          rotate_left
          ·simp only [Act.put,yK,yL,yM,i64_w,i32_w]
           rfl
          refine pure_ (i:=16) (N:=some 71) (v:=?_) (a':=?_) #[true,true,true,true,true,true,true,true,true,true,true,true,true,true,true,true,true] rfl rfl (any_of HT_.out (by kernel_rfl)) (fun _ _ _ h=>h) (Or.inl ⟨by rfl,?_⟩) ?_ ?_
          rotate_left
          ·intro w'
           go_simp
           with_reducible rfl
          rotate_left
          ·simp only [Act.put,yK,yL,yM,i64_w,i32_w]
           rfl
          refine done_ (done_of HT_.out (by kernel_rfl)) ?_
          have hcz59_0:w58.cell? ⟨gb241,0,none⟩=some (.slice (some ad243) l0_0.length c0_0):=(blk_cell BK241.out 0).trans rfl
          have hcz59_1:w58.cell? ⟨gb241,1,none⟩=some (.slice (some ad244) l0_1.length c0_1):=(blk_cell BK241.out 1).trans rfl
          have hfz59_0:=blk_frozen BK241.out 0
          have hfz59_1:=blk_frozen BK241.out 1
          have hcz60_0:w58.cell? ⟨gb242,0,none⟩=some (.slice none 0 0):=(blk_cell BK242.out 0).trans rfl
          have hcz60_1:w58.cell? ⟨gb242,1,none⟩=some (.slice none 0 0):=(blk_cell BK242.out 1).trans rfl
          have hfz60_0:=blk_frozen BK242.out 0
          have hfz60_1:=blk_frozen BK242.out 1
          try go_wp2
          refine bodyPost_ret (results_cell_row rfl _ _ gb242 59 #[.slice (some ad243) l0_0.length c0_0,.slice (some ad244) l0_1.length c0_1] (0,0) _ rfl (by (with_reducible repeat (first|refine yE ?_ _|refine yF ?_|refine yG ?_ _));refine blk_put (cs:=#[.slice (some ad243) l0_0.length c0_0,.slice none 0 0]) ?_ 1 _ rfl;(with_reducible repeat (first|refine yE ?_ _|refine yF ?_|refine yG ?_ _));refine blk_put (cs:=#[.slice none 0 0,.slice none 0 0]) ?_ 0 _ rfl;(with_reducible repeat (first|refine yE ?_ _|refine yF ?_|refine yG ?_ _));exact BK242.out) Try.underlying59 rfl (by kernel_rfl)) rfl ?_
          exact ⟨_,_,by first|rfl|(simp [errW_none,errW_some]<;>rfl)|(simp only [← hji28,← hji31];first|rfl|(simp [errW_none,errW_some]<;>rfl))|(simp [*,errW_none,errW_some]<;>rfl),by (with_reducible repeat (first|apply Kd.V_alloc|apply Kd.V_drewN|apply Kd.V_drew));exact Kd.V_mono (Kd.V_far (p:=⟨gb242,1,none⟩) (Kd.V_far (p:=⟨gb242,0,none⟩) (Kd.V_mono HO_242000.out (fun k_ hk=>(⟨hk,hk.2.2⟩:_∧k_≠gb242))) (fun _ hk=>hk.2) (.slice (some ad243) l0_0.length c0_0)) (fun _ hk=>hk.2) (.slice (some ad244) l0_1.length c0_1)) (fun _ hk=>hk.1.1),by (with_reducible repeat (first|apply Kd.V_alloc|apply Kd.V_drewN|apply Kd.V_drew));exact Kd.V_mono (Kd.V_far (p:=⟨gb242,1,none⟩) (Kd.V_far (p:=⟨gb242,0,none⟩) (Kd.V_mono HO_242001.out (fun k_ hk=>(⟨hk,hk.2.2⟩:_∧k_≠gb242))) (fun _ hk=>hk.2) (.slice (some ad243) l0_0.length c0_0)) (fun _ hk=>hk.2) (.slice (some ad244) l0_1.length c0_1)) (fun _ hk=>hk.1.1),by repeat (first|(with_reducible first|exact HB.out|apply yA|apply yB|apply yC|refine yD ?_ GE241.out|refine yD ?_ GE242.out)|exact HB.out)⟩
        ·rw [if_neg c33] at H
         exact absurd H (by simp)
       ·rw [if_neg c32] at H
        exact absurd H (by simp)
      ·rw [if_neg c30] at H
       exact absurd H (by simp)
     ·rw [if_neg c29] at H
      exact absurd H (by simp)
    ·rw [if_neg c27] at H
     have c27b0:decide (0<(l0_0.length:Int))=false:=decide_eq_false c27
     have c27b1:decide (0<l0_0.length)=false:=decide_eq_false (by omega)
     clear c27
     simp only [Option.some.injEq,Prod.mk.injEq] at H
     obtain ⟨rfl,rfl⟩:=H
     have hnb61:=NB241_242.out
     have hnc61:=NB242_241.out
     have hcz62_0:wr.cell? ⟨gb241,0,none⟩=some (.slice A0_0 l0_0.length c0_0):=(blk_cell BK241.out 0).trans rfl
     have hcz62_1:wr.cell? ⟨gb241,1,none⟩=some (.slice A0_1 l0_1.length c0_1):=(blk_cell BK241.out 1).trans rfl
     have hfz62_0:=blk_frozen BK241.out 0
     have hfz62_1:=blk_frozen BK241.out 1
     try go_wp2
     have n0_:=Aside0.mk (Kd.V_drew HO_242000.out)
     have n1_:=Aside0.mk (Kd.V_drew HO_242001.out)
     have n2_:=Aside0.mk (yF BK241.out)
     have n3_:=Aside0.mk (yF BK242.out)
     have n4_:=Aside0.mk (yC HB.out)
     clear HO_242000
     clear HO_242001
     clear BK241
     clear BK242
     clear HB
     have HO_242000:=n0_
     have HO_242001:=n1_
     have BK241:=n2_
     have BK242:=n3_
     have HB:=n4_
     clear n0_ n1_ n2_ n3_ n4_
     refine start_ (n:=17) (S:=fun w'=>True) (ds:=[]) #[false,false,false,false,false,false,false,false,false,false,false,false,false,false,false,false,false] (by kernel_rfl) rfl rfl trivial (fun hHeld=>?_);refine with_tabW spec_l1Less.tab13 spec_l1Less.bits13 (fun HT_ HW_=>?_)
     generalize wr.drew=w63 at HO_242000 HO_242001 BK241 BK242 HB hHeld ⊢
     refine pure_ (i:=0) (N:=some 55) (v:=?_) (a':=?_) #[true,false,false,false,false,false,false,false,false,false,false,false,false,false,false,false,false] rfl rfl (any_of HT_.out (by kernel_rfl)) (fun _ _ _ h=>h) (Or.inl ⟨by rfl,?_⟩) ?_ ?_
     rotate_left
     ·intro w'
      go_simp
      with_reducible rfl
     rotate_left
     ·simp only [Act.put,yK,yL,yM,i64_w,i32_w]
      rfl
     refine pure_ (i:=1) (N:=some 56) (v:=?_) (a':=?_) #[true,true,false,false,false,false,false,false,false,false,false,false,false,false,false,false,false] rfl rfl (any_of HT_.out (by kernel_rfl)) (fun _ _ _ h=>h) (Or.inl ⟨by rfl,?_⟩) ?_ ?_
     rotate_left
     ·intro w'
      go_simp
      with_reducible rfl
     rotate_left
     ·simp only [Act.put,yK,yL,yM,i64_w,i32_w]
      rfl
     refine pure_ (i:=2) (N:=some 57) (v:=?_) (a':=?_) #[true,true,true,false,false,false,false,false,false,false,false,false,false,false,false,false,false] rfl rfl (any_of HT_.out (by kernel_rfl)) (fun _ _ _ h=>h) (Or.inl ⟨by rfl,?_⟩) ?_ ?_
     rotate_left
     ·intro w'
      go_simp
      with_reducible rfl
     rotate_left
     ·simp only [Act.put,yK,yL,yM,i64_w,i32_w]
      rfl
     refine pure_ (i:=3) (N:=some 58) (v:=undef) (a':=?_) #[true,true,true,true,false,false,false,false,false,false,false,false,false,false,false,false,false] rfl rfl (any_of HT_.out (by kernel_rfl)) (fun _ _ _ h=>h) (Or.inr ⟨by rfl,rfl⟩) ?_ ?_
     rotate_left
     ·simp only [Act.put,yK,yL,yM,i64_w,i32_w]
      rfl
     refine pure_ (i:=4) (N:=some 59) (v:=undef) (a':=?_) #[true,true,true,true,true,false,false,false,false,false,false,false,false,false,false,false,false] rfl rfl (any_of HT_.out (by kernel_rfl)) (fun _ _ _ h=>h) (Or.inr ⟨by rfl,rfl⟩) ?_ ?_
     rotate_left
     ·simp only [Act.put,yK,yL,yM,i64_w,i32_w]
      rfl
     refine pure_ (i:=5) (N:=some 60) (v:=undef) (a':=?_) #[true,true,true,true,true,true,false,false,false,false,false,false,false,false,false,false,false] rfl rfl (any_of HT_.out (by kernel_rfl)) (fun _ _ _ h=>h) (Or.inr ⟨by rfl,rfl⟩) ?_ ?_
     rotate_left
     ·simp only [Act.put,yK,yL,yM,i64_w,i32_w]
      rfl
     refine pure_ (i:=6) (N:=some 61) (v:=undef) (a':=?_) #[true,true,true,true,true,true,true,false,false,false,false,false,false,false,false,false,false] rfl rfl (any_of HT_.out (by kernel_rfl)) (fun _ _ _ h=>h) (Or.inr ⟨by rfl,rfl⟩) ?_ ?_
     rotate_left
     ·simp only [Act.put,yK,yL,yM,i64_w,i32_w]
      rfl
     refine pure_ (i:=7) (N:=some 62) (v:=undef) (a':=?_) #[true,true,true,true,true,true,true,true,false,false,false,false,false,false,false,false,false] rfl rfl (any_of HT_.out (by kernel_rfl)) (fun _ _ _ h=>h) (Or.inr ⟨by rfl,rfl⟩) ?_ ?_
     rotate_left
     ·simp only [Act.put,yK,yL,yM,i64_w,i32_w]
      rfl
     refine pure_ (i:=8) (N:=some 63) (v:=undef) (a':=?_) #[true,true,true,true,true,true,true,true,true,false,false,false,false,false,false,false,false] rfl rfl (any_of HT_.out (by kernel_rfl)) (fun _ _ _ h=>h) (Or.inr ⟨by rfl,rfl⟩) ?_ ?_
     rotate_left
     ·simp only [Act.put,yK,yL,yM,i64_w,i32_w]
      rfl
     refine pure_ (i:=9) (N:=some 64) (v:=undef) (a':=?_) #[true,true,true,true,true,true,true,true,true,true,false,false,false,false,false,false,false] rfl rfl (any_of HT_.out (by kernel_rfl)) (fun _ _ _ h=>h) (Or.inr ⟨by rfl,rfl⟩) ?_ ?_
     rotate_left
     ·simp only [Act.put,yK,yL,yM,i64_w,i32_w]
      rfl
     refine pure_ (i:=10) (N:=some 65) (v:=undef) (a':=?_) #[true,true,true,true,true,true,true,true,true,true,true,false,false,false,false,false,false] rfl rfl (any_of HT_.out (by kernel_rfl)) (fun _ _ _ h=>h) (Or.inr ⟨by rfl,rfl⟩) ?_ ?_
     rotate_left
     ·simp only [Act.put,yK,yL,yM,i64_w,i32_w]
      rfl
     refine pure_ (i:=11) (N:=some 66) (v:=undef) (a':=?_) #[true,true,true,true,true,true,true,true,true,true,true,true,false,false,false,false,false] rfl rfl (any_of HT_.out (by kernel_rfl)) (fun _ _ _ h=>h) (Or.inr ⟨by rfl,rfl⟩) ?_ ?_
     rotate_left
     ·simp only [Act.put,yK,yL,yM,i64_w,i32_w]
      rfl
     refine pure_ (i:=12) (N:=some 67) (v:=undef) (a':=?_) #[true,true,true,true,true,true,true,true,true,true,true,true,true,false,false,false,false] rfl rfl (any_of HT_.out (by kernel_rfl)) (fun _ _ _ h=>h) (Or.inr ⟨by rfl,rfl⟩) ?_ ?_
     rotate_left
     ·simp only [Act.put,yK,yL,yM,i64_w,i32_w]
      rfl
     refine pure_ (i:=13) (N:=some 68) (v:=undef) (a':=?_) #[true,true,true,true,true,true,true,true,true,true,true,true,true,true,false,false,false] rfl rfl (any_of HT_.out (by kernel_rfl)) (fun _ _ _ h=>h) (Or.inr ⟨by rfl,rfl⟩) ?_ ?_
     rotate_left
     ·simp only [Act.put,yK,yL,yM,i64_w,i32_w]
      rfl
     refine pure_ (i:=14) (N:=some 69) (v:=undef) (a':=?_) #[true,true,true,true,true,true,true,true,true,true,true,true,true,true,true,false,false] rfl rfl (any_of HT_.out (by kernel_rfl)) (fun _ _ _ h=>h) (Or.inr ⟨by rfl,rfl⟩) ?_ ?_
     rotate_left
     ·simp only [Act.put,yK,yL,yM,i64_w,i32_w]
      rfl
     refine pure_ (i:=15) (N:=some 70) (v:=undef) (a':=?_) #[true,true,true,true,true,true,true,true,true,true,true,true,true,true,true,true,false] rfl rfl (any_of HT_.out (by kernel_rfl)) (fun _ _ _ h=>h) (Or.inr ⟨by rfl,rfl⟩) ?_ ?_
     rotate_left
     ·simp only [Act.put,yK,yL,yM,i64_w,i32_w]
      rfl
     refine pure_ (i:=16) (N:=some 71) (v:=?_) (a':=?_) #[true,true,true,true,true,true,true,true,true,true,true,true,true,true,true,true,true] rfl rfl (any_of HT_.out (by kernel_rfl)) (fun _ _ _ h=>h) (Or.inl ⟨by rfl,?_⟩) ?_ ?_
     rotate_left
     ·intro w'
      go_simp
      with_reducible rfl
     rotate_left
     ·simp only [Act.put,yK,yL,yM,i64_w,i32_w]
      rfl
     refine done_ (done_of HT_.out (by kernel_rfl)) ?_
     have hcz64_0:w63.cell? ⟨gb241,0,none⟩=some (.slice A0_0 l0_0.length c0_0):=(blk_cell BK241.out 0).trans rfl
     have hcz64_1:w63.cell? ⟨gb241,1,none⟩=some (.slice A0_1 l0_1.length c0_1):=(blk_cell BK241.out 1).trans rfl
     have hfz64_0:=blk_frozen BK241.out 0
     have hfz64_1:=blk_frozen BK241.out 1
     have hcz65_0:w63.cell? ⟨gb242,0,none⟩=some (.slice none 0 0):=(blk_cell BK242.out 0).trans rfl
     have hcz65_1:w63.cell? ⟨gb242,1,none⟩=some (.slice none 0 0):=(blk_cell BK242.out 1).trans rfl
     have hfz65_0:=blk_frozen BK242.out 0
     have hfz65_1:=blk_frozen BK242.out 1
     try go_wp2
     refine bodyPost_ret (results_cell_row rfl _ _ gb242 59 #[.slice A0_0 l0_0.length c0_0,.slice A0_1 l0_1.length c0_1] (0,0) _ rfl (by (with_reducible repeat (first|refine yE ?_ _|refine yF ?_|refine yG ?_ _));refine blk_put (cs:=#[.slice A0_0 l0_0.length c0_0,.slice none 0 0]) ?_ 1 _ rfl;(with_reducible repeat (first|refine yE ?_ _|refine yF ?_|refine yG ?_ _));refine blk_put (cs:=#[.slice none 0 0,.slice none 0 0]) ?_ 0 _ rfl;(with_reducible repeat (first|refine yE ?_ _|refine yF ?_|refine yG ?_ _));exact BK242.out) Try.underlying59 rfl (by kernel_rfl)) rfl ?_
     exact ⟨_,_,by first|rfl|(simp [errW_none,errW_some]<;>rfl)|(simp [*,errW_none,errW_some]<;>rfl)|(simp [errW_none,errW_some];exact ⟨rfl,rfl⟩),by (with_reducible repeat (first|apply Kd.V_alloc|apply Kd.V_drewN|apply Kd.V_drew));exact Kd.V_mono (Kd.V_far (p:=⟨gb242,1,none⟩) (Kd.V_far (p:=⟨gb242,0,none⟩) (Kd.V_mono HO_242000.out (fun k_ hk=>(⟨hk,hk.2.2⟩:_∧k_≠gb242))) (fun _ hk=>hk.2) (.slice A0_0 l0_0.length c0_0)) (fun _ hk=>hk.2) (.slice A0_1 l0_1.length c0_1)) (fun _ hk=>hk.1.1),by (with_reducible repeat (first|apply Kd.V_alloc|apply Kd.V_drewN|apply Kd.V_drew));exact Kd.V_mono (Kd.V_far (p:=⟨gb242,1,none⟩) (Kd.V_far (p:=⟨gb242,0,none⟩) (Kd.V_mono HO_242001.out (fun k_ hk=>(⟨hk,hk.2.2⟩:_∧k_≠gb242))) (fun _ hk=>hk.2) (.slice A0_0 l0_0.length c0_0)) (fun _ hk=>hk.2) (.slice A0_1 l0_1.length c0_1)) (fun _ hk=>hk.1.1),by repeat (first|(with_reducible first|exact HB.out|apply yA|apply yB|apply yC|refine yD ?_ GE241.out|refine yD ?_ GE242.out)|exact HB.out)⟩

end Go.Proofs.Ytneadgionjlicaa.P

namespace Go.Proofs.Ytneadgionjlicaa.P
open Go.RowKit Go.Proofs.YtneadgionjlicaaW.PrintWords Go.Proofs.YtneadgionjlicaaW.PrintLast Go.Proofs.YtneadgionjlicaaW.PrintMore
attribute [local go_sem] max2_int min2_int max_two min_two max_three min_three max_four min_four   -- for this text's walks alone
set_option linter.unusedVariables false
set_option linter.unusedSimpArgs false

/-! ### spec_l6In: function 65 -/
def spec_l6In.f (a0:Int) (a1:Int) (a2:Int):Option (Bool):=if a0 ≥ a1 then (some (decide (a0≤a2))) else (some false)
set_option maxHeartbeats 8000000 in
set_option maxRecDepth 100000 in
theorem spec_l6In.calls (a0:Int) (a1:Int) (a2:Int) (r:Bool) (w:World) (h:spec_l6In.f a0 a1 a2=some r) :
  Calls Try.prog 65 #[.int .i64 a0,.int .i64 a1,.int .i64 a2] w fun e w'=>e=.returned (.bool r)∧Drawn0 w w':=by
 have H:(if a0 ≥ a1 then (some (decide (a0≤a2))) else (some false))=some r:=h
 clear h
 by_cases c4:a0 ≥ a1
 ·rw [if_pos c4] at H
  have c4b0:decide (a1≤a0)=true:=decide_eq_true c4
  clear c4
  obtain rfl:=Option.some.inj H
  go_enter Try.func65,Try.ntmps65
  go_wp2
  go_ret
  exact ⟨by first|rfl|(simp;done)|(simp [*];done),by repeat (first|exact Drawn0.refl _|apply Drawn0.step)⟩
 ·rw [if_neg c4] at H
  have c4b0:decide (a1≤a0)=false:=decide_eq_false c4
  clear c4
  obtain rfl:=Option.some.inj H
  go_enter Try.func65,Try.ntmps65
  go_wp2
  go_ret
  exact ⟨by first|rfl|(simp;done)|(simp [*];done),by repeat (first|exact Drawn0.refl _|apply Drawn0.step)⟩

end Go.Proofs.Ytneadgionjlicaa.P

namespace Go.Proofs.Ytneadgionjlicaa.P
open Go.RowKit Go.Proofs.YtneadgionjlicaaW.PrintWords Go.Proofs.YtneadgionjlicaaW.PrintLast Go.Proofs.YtneadgionjlicaaW.PrintMore
attribute [local go_sem] max2_int min2_int max_two min_two max_three min_three max_four min_four   -- for this text's walks alone
set_option linter.unusedVariables false
set_option linter.unusedSimpArgs false

/-- A state of type 74 at block g of W; what its slices lead to came in by w0. -/
def IsS74 (w0 W:World) (g:Nat) (f0:List Int) (f1:Int):Prop:=∃ A0 c0,W.heap[g]?=some (.cells #[.slice A0 f0.length c0,.int .i64 f1] 74 (0,0))∧w0.heap.size≤g∧Kd.C (Kd.int .u8) w0 A0 f0.length f0
theorem IsS74.grown {w0 W:World} {g:Nat} {f0:List Int} {f1:Int} {W1:World} {row:Option Nat} (h:IsS74 w0 W g f0 f1) (hw:W.grownBy W1 row) (hne:some g≠row):IsS74 w0 W1 g f0 f1:=by
 obtain ⟨A0,c0,hb,hg,hr0⟩:=h
 exact ⟨A0,c0,blk_grown hb hw hne,hg,hr0⟩
theorem IsS74.own_neN {w0 W:World} {g:Nat} {f0:List Int} {f1:Int} {α:Type} {d:Kd α} {e:Nat} {base:Nat} {ok:Nat→Prop} {v:Value} {xs:List α} (h:IsS74 w0 W g f0 f1) (ho:Kd.N d e W base ok v xs) (ht:e≠74):some g≠v.ownBlock:=by
 obtain ⟨A0,c0,hb,hg,hr0⟩:=h
 exact Kd.N_ne ho hb ht
theorem IsS74.fresh {w0 W:World} {g:Nat} {f0:List Int} {f1:Int} (h:IsS74 w0 W g f0 f1):∀ k,W.heap.size≤k→k≠g:=by
 obtain ⟨A0,c0,hb,hg,hr0⟩:=h
 exact Kd.freshB hb
theorem IsS74.kept {w0 W:World} {g:Nat} {f0:List Int} {f1:Int} {W1:World} {S:Nat→Prop} (h:IsS74 w0 W g f0 f1) (hk:Kept W W1 S) (hne:¬ S g):IsS74 w0 W1 g f0 f1:=by
 obtain ⟨A0,c0,hb,hg,hr0⟩:=h
 exact ⟨A0,c0,blk_kept hb hk hne,hg,hr0⟩
theorem IsS74.below {w0 W:World} {g:Nat} {f0:List Int} {f1:Int} {W1:World} (h:IsS74 w0 W g f0 f1) (hw:Below W.heap.size W W1):IsS74 w0 W1 g f0 f1:=h.grown (grown_of_below hw none) (by simp)
theorem IsS74.alloc {w0 W:World} {g:Nat} {f0:List Int} {f1:Int} (h:IsS74 w0 W g f0 f1) (o:Obj):IsS74 w0 (W.alloc o) g f0 f1:=h.below (yA (Below.refl _ _) o)
theorem IsS74.drewN {w0 W:World} {g:Nat} {f0:List Int} {f1:Int} (h:IsS74 w0 W g f0 f1) (m:Nat):IsS74 w0 (W.drewN m) g f0 f1:=h
theorem IsS74.drew {w0 W:World} {g:Nat} {f0:List Int} {f1:Int} (h:IsS74 w0 W g f0 f1):IsS74 w0 W.drew g f0 f1:=h
theorem IsS74.at_ {w0 W:World} {g:Nat} {f0:List Int} {f1:Int} {w':World} {m:Nat} (hq:W.drewN m=w') (h:IsS74 w0 W g f0 f1):IsS74 w0 w' g f0 f1:=by subst hq;exact IsS74.drewN h m
theorem IsS74.apart {w0 W:World} {g:Nat} {f0:List Int} {f1:Int} {α:Type} {d:Kd α} {e:Nat} {base:Nat} {ok:Nat→Prop} {v:Value} {xs:List α} (h:IsS74 w0 W g f0 f1) (ho:d.R e W base ok v xs) (ht:∀ q,q ∈ e :: d.E→q≠74):d.R e W base (fun k=>ok k∧k≠g) v xs:=by
 obtain ⟨A0,c0,hb,hg,hr0⟩:=h
 exact Kd.R_types ho hb ht
theorem IsS74.own_ne {w0 W:World} {g:Nat} {f0:List Int} {f1:Int} {α:Type} {d:Kd α} {e:Nat} {base:Nat} {ok:Nat→Prop} {v:Value} {xs:List α} (h:IsS74 w0 W g f0 f1) (ho:d.R e W base ok v xs) (ht:e≠74):some g≠v.ownBlock:=by
 obtain ⟨A0,c0,hb,hg,hr0⟩:=h
 exact Kd.R_ne ho hb ht
theorem IsS74.apartQ {w0 W:World} {g:Nat} {f0:List Int} {f1:Int} {α:Type} {d:Kd α} {e:Nat} {base:Nat} {ok:Nat→Prop} {v:Value} {xs:List α} (h:IsS74 w0 W g f0 f1) (ho:d.Q e W base ok v xs) (ht:∀ q,q ∈ e :: d.E→q≠74):d.Q e W base (fun k=>ok k∧k≠g) v xs:=by
 obtain ⟨A0,c0,hb,hg,hr0⟩:=h
 exact Kd.Q_types ho hb ht
theorem IsS74.own_neQ {w0 W:World} {g:Nat} {f0:List Int} {f1:Int} {α:Type} {d:Kd α} {e:Nat} {base:Nat} {ok:Nat→Prop} {v:Value} {xs:List α} (h:IsS74 w0 W g f0 f1) (ho:d.Q e W base ok v xs) (ht:e≠74):some g≠v.ownBlock:=by
 obtain ⟨A0,c0,hb,hg,hr0⟩:=h
 exact Kd.Q_ne ho hb ht
theorem IsS74.apartS {w0 W:World} {g:Nat} {f0:List Int} {f1:Int} {α:Type} {d:Kd α} {e:Nat} {base:Nat} {ok:Nat→Prop} {v:Value} {xs:List α} (h:IsS74 w0 W g f0 f1) (ho:d.S e W base ok v xs) (ht:∀ q,q ∈ e :: d.E→q≠74):d.S e W base (fun k=>ok k∧k≠g) v xs:=by
 obtain ⟨A0,c0,hb,hg,hr0⟩:=h
 exact Kd.S_types ho hb ht
theorem IsS74.own_neS {w0 W:World} {g:Nat} {f0:List Int} {f1:Int} {α:Type} {d:Kd α} {e:Nat} {base:Nat} {ok:Nat→Prop} {v:Value} {xs:List α} (h:IsS74 w0 W g f0 f1) (ho:d.S e W base ok v xs) (ht:e≠74):some g≠v.ownBlock:=by
 obtain ⟨A0,c0,hb,hg,hr0⟩:=h
 exact Kd.S_ne ho hb ht
theorem IsS74.lt {w0 W:World} {g:Nat} {f0:List Int} {f1:Int} (h:IsS74 w0 W g f0 f1):g<W.heap.size:=by
 obtain ⟨A0,c0,hb,hg,hr0⟩:=h
 exact blk_lt hb
theorem IsS74.ge {w0 W:World} {g:Nat} {f0:List Int} {f1:Int} (h:IsS74 w0 W g f0 f1):w0.heap.size≤g:=by
 obtain ⟨A0,c0,hb,hg,hr0⟩:=h
 exact hg
theorem IsS74.ne_blk {w0 W:World} {g:Nat} {f0:List Int} {f1:Int} {a:Nat} {cs:Array Value} {t:TypeId} {fr:Nat × Nat} (h:IsS74 w0 W g f0 f1) (hb2:W.heap[a]?=some (.cells cs t fr)) (ht:t≠74):g≠a:=by
 obtain ⟨A0,c0,hb,hg,hr0⟩:=h
 rintro rfl
 rw [hb] at hb2
 injection hb2 with hb2
 injection hb2 with _ ht2
 exact ht ht2.symm
theorem IsS74.far {w0 W:World} {g:Nat} {f0:List Int} {f1:Int} {p:Addr} (h:IsS74 w0 W g f0 f1) (hne:g≠p.block) (u:Value):IsS74 w0 (W.setCell p u) g f0 f1:=by
 obtain ⟨A0,c0,hb,hg,hr0⟩:=h
 exact ⟨A0,c0,blk_far hb hne u,hg,hr0⟩
theorem cellS74_0 {W:World} {g:Nat} {A0:Option Addr} {c0:Nat} {f0:List Int} {f1:Int} (h:W.heap[g]?=some (.cells #[.slice A0 f0.length c0,.int .i64 f1] 74 (0,0))):W.cell? ⟨g,0,none⟩=some (.slice A0 f0.length c0):=(blk_cell h 0).trans rfl
theorem cellS74_1 {W:World} {g:Nat} {A0:Option Addr} {c0:Nat} {f0:List Int} {f1:Int} (h:W.heap[g]?=some (.cells #[.slice A0 f0.length c0,.int .i64 f1] 74 (0,0))):W.cell? ⟨g,1,none⟩=some (.int .i64 f1):=(blk_cell h 1).trans rfl
theorem IsS74.set_1 {w0 W:World} {g:Nat} {f0:List Int} {f1:Int} (h:IsS74 w0 W g f0 f1) (x:Int):IsS74 w0 (W.setCell ⟨g,1,none⟩ (.int .i64 x)) g f0 x:=by
 obtain ⟨A0,c0,hb,hg,hr0⟩:=h
 exact ⟨A0,c0,by simpa using blk_set hb 1 (.int .i64 x),hg,hr0⟩
theorem IsS74.new (w0 W:World) (A0:Option Addr) (c0:Nat) (f0:List Int) (f1:Int) (hB:Below w0.heap.size w0 W) (hr0:Kd.C (Kd.int .u8) w0 A0 f0.length f0):IsS74 w0 (W.alloc (.cells #[.slice A0 f0.length c0,.int .i64 f1] 74)) W.heap.size f0 f1:=⟨A0,c0,by simpa using heap_alloc_new W _,hB.size,hr0⟩

/-! ### spec_l6Open: function 28 -/
def spec_l6Open.f (l0:List Int):Option (List Int × Int):=if (l0.length:Int) > 2000 then (if 2000≤(l0.length:Int) then (some (l0.take 2000,0)) else (none)) else (some (l0,0))
set_option maxHeartbeats 8000000 in
set_option maxRecDepth 100000 in
theorem spec_l6Open.calls (A0:Option Addr) (c0:Nat) (l0:List Int) (r1:List Int) (r2:Int) (w0 w:World) (hB:Below w0.heap.size w0 w) (hr0:Kd.C (Kd.int .u8) w0 A0 l0.length l0) (hc0:l0.length≤c0) (h:spec_l6Open.f l0=some (r1,r2)) :
  Calls Try.prog 28 #[.slice A0 l0.length c0] w fun e w'=>∃ g_:Nat,e=.returned (.pointer (some ⟨g_,0,none⟩))∧IsS74 w0 w' g_ r1 r2∧Below w0.heap.size w0 w'∧Below w.heap.size w w':=by
 have hu74:=Try.underlying74
 have HR0:=Aside0.mk hr0
 have HC0:=Aside0.mk hc0
 clear hr0 hc0
 have HBW:=Aside0.mk (Below.refl w.heap.size w)
 have HW0:=Aside0.mk hB.size
 have HB:=Aside0.mk hB
 clear hB
 have H:(if (l0.length:Int) > 2000 then (if 2000≤(l0.length:Int) then (some (l0.take 2000,0)) else (none)) else (some (l0,0)))=some (r1,r2):=h
 clear h
 by_cases c2:(l0.length:Int) > 2000
 ·rw [if_pos c2] at H
  have c2b0:decide (2000<(l0.length:Int))=true:=decide_eq_true c2
  have c2b1:decide (2000<l0.length)=true:=decide_eq_true (by omega)
  clear c2
  by_cases c3:2000≤(l0.length:Int)
  ·rw [if_pos c3] at H
   have c3b0:=eq_true c3
   have c3b1:decide (2000≤(l0.length:Int))=true:=decide_eq_true c3
   clear c3
   simp only [Option.some.injEq,Prod.mk.injEq] at H
   obtain ⟨rfl,rfl⟩:=H
   obtain ⟨i04,hi04,_,hsz4,_⟩:=info_parts info5
   obtain ⟨hcut4,hA4,hC4⟩:=print_take_of (P:=Try.prog) (Value.int .u8) 0 22 5 .i64 Try.underlying22 hi04 hsz4 A0 c0 l0 2000 (by omega) (of_decide_eq_true (by first|(with_reducible assumption)|assumption)) HC0.out
   have HR101:=Aside0.mk (Kd.C_of_reads (h1:=fun _=>rfl) (hA4 _ (Kd.reads_of_C HR0.out)))
   have HC101:=Aside0.mk hC4
   clear hA4 hC4 hi04 hsz4
   go_enter Try.func28,Try.ntmps28
   go_wp2_with (first|((with_reducible refine gate_dst (N:=10) rfl ?_);refine box_event ?hg (N:=10) ?hd (cs:=#[.slice A0 (l0.take 2000).length c0,.int .i64 0]) (t:=74) ?hr ?_;(case hd=>rfl);(case hg=>rfl);(case hr=>first|(go_simp;done)|(go_simp;rfl));intro gb102 hg w5 hbox hb;have n0_:=Aside0.mk (yP HBW.out hb);have n1_:=Aside0.mk (yP (by repeat (first|(with_reducible first|exact HB.out|apply yA|apply yB|apply yC)|exact HB.out)) hb);have n2_:=Aside0.mk (hbox);have n3_:=Aside0.mk ((by rw [hg];exact (yQ (by repeat (first|(with_reducible first|exact HBW.out|apply yA|apply yB|apply yC)|exact HBW.out))):w.heap.size≤gb102));have n4_:=Aside0.mk ((Nat.le_trans HW0.out (by rw [hg];exact (yQ (by repeat (first|(with_reducible first|exact HBW.out|apply yA|apply yB|apply yC)|exact HBW.out))):w.heap.size≤gb102):w0.heap.size≤gb102));clear HBW;clear HB;have HBW:=n0_;have HB:=n1_;have BK102:=n2_;have GW102:=n3_;have GE102:=n4_;clear n0_ n1_ n2_ n3_ n4_;clear hb hbox hg))
   go_ret
   exact ⟨_,rfl,(show IsS74 w0 _ gb102 (l0.take 2000) 0 from ⟨_,_,by (with_reducible repeat (first|refine yE ?_ _|refine yF ?_|refine yG ?_ _));exact BK102.out,GE102.out,HR101.out⟩),by repeat (first|(with_reducible first|exact HB.out|apply yA|apply yB|apply yC|refine yD ?_ GE102.out)|exact HB.out),by repeat (first|(with_reducible first|exact HBW.out|apply yA|apply yB|apply yC|refine yD ?_ GW102.out)|exact HBW.out)⟩
  ·rw [if_neg c3] at H
   exact absurd H (by simp)
 ·rw [if_neg c2] at H
  have c2b0:decide (2000<(l0.length:Int))=false:=decide_eq_false c2
  have c2b1:decide (2000<l0.length)=false:=decide_eq_false (by omega)
  clear c2
  simp only [Option.some.injEq,Prod.mk.injEq] at H
  obtain ⟨rfl,rfl⟩:=H
  go_enter Try.func28,Try.ntmps28
  go_wp2_with (first|((with_reducible refine gate_dst (N:=10) rfl ?_);refine box_event ?hg (N:=10) ?hd (cs:=#[.slice A0 l0.length c0,.int .i64 0]) (t:=74) ?hr ?_;(case hd=>rfl);(case hg=>rfl);(case hr=>first|(go_simp;done)|(go_simp;rfl));intro gb103 hg w6 hbox hb;have n0_:=Aside0.mk (yP HBW.out hb);have n1_:=Aside0.mk (yP (by repeat (first|(with_reducible first|exact HB.out|apply yA|apply yB|apply yC)|exact HB.out)) hb);have n2_:=Aside0.mk (hbox);have n3_:=Aside0.mk ((by rw [hg];exact (yQ (by repeat (first|(with_reducible first|exact HBW.out|apply yA|apply yB|apply yC)|exact HBW.out))):w.heap.size≤gb103));have n4_:=Aside0.mk ((Nat.le_trans HW0.out (by rw [hg];exact (yQ (by repeat (first|(with_reducible first|exact HBW.out|apply yA|apply yB|apply yC)|exact HBW.out))):w.heap.size≤gb103):w0.heap.size≤gb103));clear HBW;clear HB;have HBW:=n0_;have HB:=n1_;have BK103:=n2_;have GW103:=n3_;have GE103:=n4_;clear n0_ n1_ n2_ n3_ n4_;clear hb hbox hg))
  go_ret
  exact ⟨_,rfl,(show IsS74 w0 _ gb103 l0 0 from ⟨_,_,by (with_reducible repeat (first|refine yE ?_ _|refine yF ?_|refine yG ?_ _));exact BK103.out,GE103.out,HR0.out⟩),by repeat (first|(with_reducible first|exact HB.out|apply yA|apply yB|apply yC|refine yD ?_ GE103.out)|exact HB.out),by repeat (first|(with_reducible first|exact HBW.out|apply yA|apply yB|apply yC|refine yD ?_ GW103.out)|exact HBW.out)⟩

end Go.Proofs.Ytneadgionjlicaa.P

namespace Go.Proofs.Ytneadgionjlicaa.P
open Go.RowKit Go.Proofs.YtneadgionjlicaaW.PrintWords Go.Proofs.YtneadgionjlicaaW.PrintLast Go.Proofs.YtneadgionjlicaaW.PrintMore
attribute [local go_sem] max2_int min2_int max_two min_two max_three min_three max_four min_four   -- for this text's walks alone
set_option linter.unusedVariables false
set_option linter.unusedSimpArgs false

/-! ### spec_l6Rd_pick: function 54 -/
def spec_l6Rd_pick.j0:Nat→Int→Bool→List Int→Int→Option (Int × Int)
 | 0,_,_,_,_=>none
 | k+1,x1,x24,x1000,x1001=>if x24=true then (some (0,x1001)) else (if (wrap64 (x1001 - 1))<(x1000.length:Int) then (if 0≤(wrap64 (x1001 - 1)) then (if x1=0 then (none) else (some (Int.tmod (wrap64 (rd x1000 (wrap64 (x1001 - 1)))) x1,x1001))) else (none)) else (if (x1000.length:Int)=0 then (none) else (if 0≤(Int.tmod (wrap64 (x1001 - 1)) (x1000.length:Int)) then (if (Int.tmod (wrap64 (x1001 - 1)) (x1000.length:Int))<(x1000.length:Int) then (if 0≤(Int.tmod (wrap64 ((wrap64 ((wrap64 (x1001 - 1)) * 7))+3)) (x1000.length:Int)) then (if (Int.tmod (wrap64 ((wrap64 ((wrap64 (x1001 - 1)) * 7))+3)) (x1000.length:Int))<(x1000.length:Int) then (if x1=0 then (none) else (some (Int.tmod (Go.bits .xor .i64 (wrap64 ((wrap64 ((wrap64 ((wrap64 ((wrap64 (rd x1000 (Int.tmod (wrap64 (x1001 - 1)) (x1000.length:Int)))) * 131))+(wrap64 ((wrap64 (rd x1000 (Int.tmod (wrap64 ((wrap64 ((wrap64 (x1001 - 1)) * 7))+3)) (x1000.length:Int)))) * 1117))))+(wrap64 ((wrap64 (x1001 - 1)) * 29))))+(wrap64 ((wrap64 (Int.tdiv (wrap64 (x1001 - 1)) (x1000.length:Int))) * 53)))) (wrap64 (Int.tdiv (wrap64 ((wrap64 ((wrap64 ((wrap64 ((wrap64 (rd x1000 (Int.tmod (wrap64 (x1001 - 1)) (x1000.length:Int)))) * 131))+(wrap64 ((wrap64 (rd x1000 (Int.tmod (wrap64 ((wrap64 ((wrap64 (x1001 - 1)) * 7))+3)) (x1000.length:Int)))) * 1117))))+(wrap64 ((wrap64 (x1001 - 1)) * 29))))+(wrap64 ((wrap64 (Int.tdiv (wrap64 (x1001 - 1)) (x1000.length:Int))) * 53)))) 64))) x1,x1001))) else (none)) else (none)) else (none)) else (none))))
def spec_l6Rd_pick.f (k:Nat) (s0_0:List Int) (s0_1:Int) (a1:Int):Option (Int × Int):=if a1<1 then (spec_l6Rd_pick.j0 k a1 true s0_0 (wrap64 (s0_1+1))) else (spec_l6Rd_pick.j0 k a1 ((s0_0.length:Int) == 0) s0_0 (wrap64 (s0_1+1)))
theorem spec_l6Rd_pick.mono_l:∀ k,(∀ y0 y1 y2 y3,LeO (spec_l6Rd_pick.j0 k y0 y1 y2 y3) (spec_l6Rd_pick.j0 (k+1) y0 y1 y2 y3))
 | 0=>fun _ _ _ _ r h=>by simp [spec_l6Rd_pick.j0] at h
 | k+1=>by
  have ih0:=spec_l6Rd_pick.mono_l k
  ·intro y0 y1 y2 y3
   unfold spec_l6Rd_pick.j0
   repeat' first
   | (with_reducible exact ih0 _ _ _ _)
   | (with_reducible exact LeO.refl _)
   | (with_reducible exact LeO.none _)
   | (with_reducible refine LeO.ite ?_ ?_)
   | (with_reducible refine LeO.bind ?_ (fun _=>?_))
   | exact ih0 _ _ _ _
   | exact LeO.none _
   | refine LeO.ite ?_ ?_
   | refine LeO.bind ?_ (fun _=>?_)
theorem spec_l6Rd_pick.mono:∀ a0 a1 a2 k,LeO (spec_l6Rd_pick.f k a0 a1 a2) (spec_l6Rd_pick.f (k+1) a0 a1 a2):=by
 intro a0 a1 a2 k
 have ih0:=spec_l6Rd_pick.mono_l k
 unfold spec_l6Rd_pick.f
 repeat' first
   | (with_reducible exact ih0 _ _ _ _)
   | (with_reducible exact LeO.refl _)
   | (with_reducible exact LeO.none _)
   | (with_reducible refine LeO.ite ?_ ?_)
   | (with_reducible refine LeO.bind ?_ (fun _=>?_))
   | exact ih0 _ _ _ _
   | exact LeO.none _
   | refine LeO.ite ?_ ?_
   | refine LeO.bind ?_ (fun _=>?_)
set_option maxHeartbeats 8000000 in
set_option maxRecDepth 100000 in
theorem spec_l6Rd_pick.calls (k:Nat) (g:Nat) (s0_0:List Int) (s0_1:Int) (a1:Int) (r1:Int) (r2:Int) (w0 w:World) (hI:IsS74 w0 w g s0_0 s0_1) (hB:Below w0.heap.size w0 w) (h:spec_l6Rd_pick.f k s0_0 s0_1 a1=some (r1,r2)) :
  Calls Try.prog 54 #[.pointer (some ⟨g,0,none⟩),.int .i64 a1] w fun e w'=>e=.returned (.int .i64 r1)∧IsS74 w0 w' g s0_0 r2∧Below w0.heap.size w0 w'∧KeepBut w w' g none:=by
 have HI0:=Aside0.mk hI
 have HK:=Aside0.mk (KeepBut.refl w g none)
 have HL:=Aside0.mk hB.size
 clear hI
 have HW0:=Aside0.mk hB.size
 have HB:=Aside0.mk hB
 clear hB
 have H:(if a1<1 then (spec_l6Rd_pick.j0 k a1 true s0_0 (wrap64 (s0_1+1))) else (spec_l6Rd_pick.j0 k a1 ((s0_0.length:Int) == 0) s0_0 (wrap64 (s0_1+1))))=some (r1,r2):=h
 clear h
 have HC3:=Aside0.mk H
 clear H
 obtain ⟨ASz4_0,cSz4_0,HGz4,hgz4,HSz4_0⟩:=HI0.out
 have hcz4_0:=cellS74_0 HGz4
 have hcz4_1:=cellS74_1 HGz4
 have hfz4_1:=blk_frozen HGz4 1
 clear HGz4 hgz4
 go_enter Try.func54,Try.ntmps54
 go_upto_region 2 with (fail)
 repeat (go_quiet (fail);go_upto_region 2 with (fail))
 go_cut [24] (fun v24 wc=>∃ (kq:Nat) (x24_2:Bool),v24=.bool x24_2∧Aside0 (spec_l6Rd_pick.j0 kq a1 x24_2 s0_0 (wrap64 (s0_1+1))=some (r1,r2))∧Aside0 (kq≤k)∧Aside0 (IsS74 w0 wc g s0_0 (wrap64 (s0_1+1)))∧Aside0 (KeepBut w wc g none)∧Aside0 (Below w0.heap.size w0 wc))
 case first =>
  have H:=HC3.out
  clear HC3
  by_cases c5:a1<1
  ·rw [if_pos c5] at H
   have c5b0:decide (a1<1)=true:=decide_eq_true c5
   clear c5
   (first|rw [c5b0]|(simp only [i64_w,i32_w];rw [c5b0])|skip)
   have H':=Aside0.mk H
   clear H
   go_wp2
   repeat (go_quiet (fail);try go_wp2)
   go_meet
   case rel=>exact ⟨_,(true),(by first|rfl|(simp;done)|(simp [*];done)|(simp [Int.tmod_eq_emod_of_nonneg];done)),H',⟨by first|omega|exact Nat.le_refl _⟩,⟨by repeat (first|(with_reducible first|exact HI0.out|apply IsS74.alloc|apply IsS74.drewN|apply IsS74.drew|apply IsS74.set_1)|exact HI0.out)⟩,⟨by repeat (first|(with_reducible first|exact HK.out|apply KeepBut.set_|apply keep_drewN|apply keep_drew|apply keep_alloc)|exact HK.out)⟩,⟨by repeat (first|(with_reducible first|exact HB.out|apply yA|apply yB|apply yC|refine yD ?_ (IsS74.ge HI0.out))|exact HB.out)⟩⟩
  ·rw [if_neg c5] at H
   have c5b0:decide (a1<1)=false:=decide_eq_false c5
   clear c5
   (first|rw [c5b0]|(simp only [i64_w,i32_w];rw [c5b0])|skip)
   have H':=Aside0.mk H
   clear H
   obtain ⟨ASz6_0,cSz6_0,HGz6,hgz6,HSz6_0⟩:=HI0.out
   have hcz6_0:=cellS74_0 HGz6
   have hcz6_1:=cellS74_1 HGz6
   have hfz6_1:=blk_frozen HGz6 1
   clear HGz6 hgz6
   go_wp2
   repeat (go_quiet (fail);try go_wp2)
   go_meet
   case rel=>exact ⟨_,(((s0_0.length:Int) == 0)),(by first|rfl|(simp;done)|(simp [*];done)|(simp [Int.tmod_eq_emod_of_nonneg];done)),H',⟨by first|omega|exact Nat.le_refl _⟩,⟨by repeat (first|(with_reducible first|exact HI0.out|apply IsS74.alloc|apply IsS74.drewN|apply IsS74.drew|apply IsS74.set_1)|exact HI0.out)⟩,⟨by repeat (first|(with_reducible first|exact HK.out|apply KeepBut.set_|apply keep_drewN|apply keep_drew|apply keep_alloc)|exact HK.out)⟩,⟨by repeat (first|(with_reducible first|exact HB.out|apply yA|apply yB|apply yC|refine yD ?_ (IsS74.ge HI0.out))|exact HB.out)⟩⟩
 case rest =>
  clear HC3
  try clear p2
  try clear c5
  try clear c5b0
  try clear p6
  try clear hcz4_0
  try clear hcz4_1
  try clear hcz6_0
  try clear hcz6_1
  try clear hfz4_1
  try clear hfz6_1
  obtain ⟨kq,x24_2,rfl,HA,HJ2,HI0,HK,HB⟩:=hcut
  cases kq with
  | zero=>exact absurd HA.out (by simp [spec_l6Rd_pick.j0])
  | succ kj2 =>
   have H:=HA.out
   clear HA
   simp only [spec_l6Rd_pick.j0] at H
   by_cases c7:x24_2=true
   ·subst c7
    have H1:(some (0,(wrap64 (s0_1+1))))=some (r1,r2):=by rw [if_pos rfl] at H;exact H
    clear H
    have H:=H1
    clear H1
    simp only [Option.some.injEq,Prod.mk.injEq] at H
    obtain ⟨rfl,rfl⟩:=H
    go_wp2
    repeat (go_quiet (fail);try go_wp2)
    go_ret
    exact ⟨by first|rfl|(simp [errW_none,errW_some]<;>rfl)|(simp [*,errW_none,errW_some]<;>rfl)|(simp [errW_none,errW_some];exact ⟨rfl,rfl⟩),by repeat (first|(with_reducible first|exact HI0.out|apply IsS74.alloc|apply IsS74.drewN|apply IsS74.drew|apply IsS74.set_1)|exact HI0.out),by repeat (first|(with_reducible first|exact HB.out|apply yA|apply yB|apply yC|refine yD ?_ (IsS74.ge HI0.out))|exact HB.out),by repeat (first|(with_reducible first|exact HK.out|apply KeepBut.set_|apply keep_drewN|apply keep_drew|apply keep_alloc)|exact HK.out)⟩
   ·replace c7:=Bool.eq_false_iff.mpr c7
    subst c7
    have H1:(if (wrap64 ((wrap64 (s0_1+1)) - 1))<(s0_0.length:Int) then (if 0≤(wrap64 ((wrap64 (s0_1+1)) - 1)) then (if a1=0 then (none) else (some (Int.tmod (wrap64 (rd s0_0 (wrap64 ((wrap64 (s0_1+1)) - 1)))) a1,(wrap64 (s0_1+1))))) else (none)) else (if (s0_0.length:Int)=0 then (none) else (if 0≤(Int.tmod (wrap64 ((wrap64 (s0_1+1)) - 1)) (s0_0.length:Int)) then (if (Int.tmod (wrap64 ((wrap64 (s0_1+1)) - 1)) (s0_0.length:Int))<(s0_0.length:Int) then (if 0≤(Int.tmod (wrap64 ((wrap64 ((wrap64 ((wrap64 (s0_1+1)) - 1)) * 7))+3)) (s0_0.length:Int)) then (if (Int.tmod (wrap64 ((wrap64 ((wrap64 ((wrap64 (s0_1+1)) - 1)) * 7))+3)) (s0_0.length:Int))<(s0_0.length:Int) then (if a1=0 then (none) else (some (Int.tmod (Go.bits .xor .i64 (wrap64 ((wrap64 ((wrap64 ((wrap64 ((wrap64 (rd s0_0 (Int.tmod (wrap64 ((wrap64 (s0_1+1)) - 1)) (s0_0.length:Int)))) * 131))+(wrap64 ((wrap64 (rd s0_0 (Int.tmod (wrap64 ((wrap64 ((wrap64 ((wrap64 (s0_1+1)) - 1)) * 7))+3)) (s0_0.length:Int)))) * 1117))))+(wrap64 ((wrap64 ((wrap64 (s0_1+1)) - 1)) * 29))))+(wrap64 ((wrap64 (Int.tdiv (wrap64 ((wrap64 (s0_1+1)) - 1)) (s0_0.length:Int))) * 53)))) (wrap64 (Int.tdiv (wrap64 ((wrap64 ((wrap64 ((wrap64 ((wrap64 (rd s0_0 (Int.tmod (wrap64 ((wrap64 (s0_1+1)) - 1)) (s0_0.length:Int)))) * 131))+(wrap64 ((wrap64 (rd s0_0 (Int.tmod (wrap64 ((wrap64 ((wrap64 ((wrap64 (s0_1+1)) - 1)) * 7))+3)) (s0_0.length:Int)))) * 1117))))+(wrap64 ((wrap64 ((wrap64 (s0_1+1)) - 1)) * 29))))+(wrap64 ((wrap64 (Int.tdiv (wrap64 ((wrap64 (s0_1+1)) - 1)) (s0_0.length:Int))) * 53)))) 64))) a1,(wrap64 (s0_1+1))))) else (none)) else (none)) else (none)) else (none))))=some (r1,r2):=by rw [if_neg (show ¬ (false=true) by decide)] at H;exact H
    clear H
    have H:=H1
    clear H1
    by_cases c8:(wrap64 ((wrap64 (s0_1+1)) - 1))<(s0_0.length:Int)
    ·rw [if_pos c8] at H
     have c8b0:decide ((wrap64 ((wrap64 (s0_1+1)) - 1))<(s0_0.length:Int))=true:=decide_eq_true c8
     clear c8
     obtain ⟨ji9,hji9⟩:∃ j_:Int,(wrap64 ((wrap64 (s0_1+1)) - 1))=j_:=⟨_,rfl⟩
     replace H:(if 0≤(ji9) then (if a1=0 then (none) else (some (Int.tmod (wrap64 (rd s0_0 (ji9))) a1,(wrap64 (s0_1+1))))) else (none))=some (r1,r2):=by first|(rw [hji9] at H;exact H)|(simp only [hji9] at H ⊢;exact H)
     (try rw [hji9] at c8b0)
     have hji9w:(IntKind.i64.wrap ((wrap64 (s0_1+1)) - 1))=ji9:=(i64_w _).trans hji9
     by_cases c10:0≤(ji9)
     ·rw [if_pos c10] at H
      have c10b0:decide (0≤(ji9))=true:=decide_eq_true c10
      clear c10
      by_cases c11:a1=0
      ·rw [if_pos c11] at H
       exact absurd H (by simp)
      ·rw [if_neg c11] at H
       have c11b0:(a1 == 0)=false:=beq_eq_false_iff_ne.mpr c11
       have c11b1:(a1 != 0)=true:=bne_iff_ne.mpr c11
       simp only [Option.some.injEq,Prod.mk.injEq] at H
       obtain ⟨rfl,rfl⟩:=H
       obtain ⟨ASz12_0,cSz12_0,HGz12,hgz12,HSz12_0⟩:=HI0.out
       have hcz12_0:=cellS74_0 HGz12
       have hcz12_1:=cellS74_1 HGz12
       have hfz12_1:=blk_frozen HGz12 1
       clear HGz12 hgz12
       have p104:0≤((ji9):Int):=of_decide_eq_true (by first|(with_reducible assumption)|assumption)
       have q104:(ji9)<(s0_0.length:Int):=of_decide_eq_true (by first|(with_reducible assumption)|assumption)
       obtain ⟨ad104,e104,hx104_0⟩:=Kd.at_int HSz12_0 (ji9) p104 q104
       cases e104
       replace hx104_0:=pw_cell_below HB.out hx104_0
       replace p104:=eq_true p104
       replace q104:=eq_true q104
       go_wp2
       repeat (go_quiet (fail);try go_wp2)
       go_ret
       exact ⟨by first|rfl|(simp [errW_none,errW_some]<;>rfl)|(simp only [← hji9];first|rfl|(simp [errW_none,errW_some]<;>rfl))|(simp [*,errW_none,errW_some]<;>rfl),by repeat (first|(with_reducible first|exact HI0.out|apply IsS74.alloc|apply IsS74.drewN|apply IsS74.drew|apply IsS74.set_1)|exact HI0.out),by repeat (first|(with_reducible first|exact HB.out|apply yA|apply yB|apply yC|refine yD ?_ (IsS74.ge HI0.out))|exact HB.out),by repeat (first|(with_reducible first|exact HK.out|apply KeepBut.set_|apply keep_drewN|apply keep_drew|apply keep_alloc)|exact HK.out)⟩
     ·rw [if_neg c10] at H
      exact absurd H (by simp)
    ·rw [if_neg c8] at H
     have c8b0:decide ((wrap64 ((wrap64 (s0_1+1)) - 1))<(s0_0.length:Int))=false:=decide_eq_false c8
     clear c8
     by_cases c13:(s0_0.length:Int)=0
     ·rw [if_pos c13] at H
      exact absurd H (by simp)
     ·rw [if_neg c13] at H
      have c13b0:((s0_0.length:Int) == 0)=false:=beq_eq_false_iff_ne.mpr c13
      have c13b1:((s0_0.length:Int) != 0)=true:=bne_iff_ne.mpr c13
      have c13b2:¬ (s0_0=[]):=fun h_=>c13 (by rw [h_];rfl)
      obtain ⟨ji14,hji14⟩:∃ j_:Int,(Int.tmod (wrap64 ((wrap64 (s0_1+1)) - 1)) (s0_0.length:Int))=j_:=⟨_,rfl⟩
      replace H:(if 0≤(ji14) then (if (ji14)<(s0_0.length:Int) then (if 0≤(Int.tmod (wrap64 ((wrap64 ((wrap64 ((wrap64 (s0_1+1)) - 1)) * 7))+3)) (s0_0.length:Int)) then (if (Int.tmod (wrap64 ((wrap64 ((wrap64 ((wrap64 (s0_1+1)) - 1)) * 7))+3)) (s0_0.length:Int))<(s0_0.length:Int) then (if a1=0 then (none) else (some (Int.tmod (Go.bits .xor .i64 (wrap64 ((wrap64 ((wrap64 ((wrap64 ((wrap64 (rd s0_0 (ji14))) * 131))+(wrap64 ((wrap64 (rd s0_0 (Int.tmod (wrap64 ((wrap64 ((wrap64 ((wrap64 (s0_1+1)) - 1)) * 7))+3)) (s0_0.length:Int)))) * 1117))))+(wrap64 ((wrap64 ((wrap64 (s0_1+1)) - 1)) * 29))))+(wrap64 ((wrap64 (Int.tdiv (wrap64 ((wrap64 (s0_1+1)) - 1)) (s0_0.length:Int))) * 53)))) (wrap64 (Int.tdiv (wrap64 ((wrap64 ((wrap64 ((wrap64 ((wrap64 (rd s0_0 (ji14))) * 131))+(wrap64 ((wrap64 (rd s0_0 (Int.tmod (wrap64 ((wrap64 ((wrap64 ((wrap64 (s0_1+1)) - 1)) * 7))+3)) (s0_0.length:Int)))) * 1117))))+(wrap64 ((wrap64 ((wrap64 (s0_1+1)) - 1)) * 29))))+(wrap64 ((wrap64 (Int.tdiv (wrap64 ((wrap64 (s0_1+1)) - 1)) (s0_0.length:Int))) * 53)))) 64))) a1,(wrap64 (s0_1+1))))) else (none)) else (none)) else (none)) else (none))=some (r1,r2):=by first|(rw [hji14] at H;exact H)|(simp only [hji14] at H ⊢;exact H)
      by_cases c15:0≤(ji14)
      ·rw [if_pos c15] at H
       have c15b0:decide (0≤(ji14))=true:=decide_eq_true c15
       clear c15
       by_cases c16:(ji14)<(s0_0.length:Int)
       ·rw [if_pos c16] at H
        have c16b0:decide ((ji14)<(s0_0.length:Int))=true:=decide_eq_true c16
        clear c16
        obtain ⟨ji17,hji17⟩:∃ j_:Int,(Int.tmod (wrap64 ((wrap64 ((wrap64 ((wrap64 (s0_1+1)) - 1)) * 7))+3)) (s0_0.length:Int))=j_:=⟨_,rfl⟩
        replace H:(if 0≤(ji17) then (if (ji17)<(s0_0.length:Int) then (if a1=0 then (none) else (some (Int.tmod (Go.bits .xor .i64 (wrap64 ((wrap64 ((wrap64 ((wrap64 ((wrap64 (rd s0_0 (ji14))) * 131))+(wrap64 ((wrap64 (rd s0_0 (ji17))) * 1117))))+(wrap64 ((wrap64 ((wrap64 (s0_1+1)) - 1)) * 29))))+(wrap64 ((wrap64 (Int.tdiv (wrap64 ((wrap64 (s0_1+1)) - 1)) (s0_0.length:Int))) * 53)))) (wrap64 (Int.tdiv (wrap64 ((wrap64 ((wrap64 ((wrap64 ((wrap64 (rd s0_0 (ji14))) * 131))+(wrap64 ((wrap64 (rd s0_0 (ji17))) * 1117))))+(wrap64 ((wrap64 ((wrap64 (s0_1+1)) - 1)) * 29))))+(wrap64 ((wrap64 (Int.tdiv (wrap64 ((wrap64 (s0_1+1)) - 1)) (s0_0.length:Int))) * 53)))) 64))) a1,(wrap64 (s0_1+1))))) else (none)) else (none))=some (r1,r2):=by first|(rw [hji17] at H;exact H)|(simp only [hji17] at H ⊢;exact H)
        by_cases c18:0≤(ji17)
        ·rw [if_pos c18] at H
         have c18b0:decide (0≤(ji17))=true:=decide_eq_true c18
         clear c18
         by_cases c19:(ji17)<(s0_0.length:Int)
         ·rw [if_pos c19] at H
          have c19b0:decide ((ji17)<(s0_0.length:Int))=true:=decide_eq_true c19
          clear c19
          by_cases c20:a1=0
          ·rw [if_pos c20] at H
           exact absurd H (by simp)
          ·rw [if_neg c20] at H
           have c20b0:(a1 == 0)=false:=beq_eq_false_iff_ne.mpr c20
           have c20b1:(a1 != 0)=true:=bne_iff_ne.mpr c20
           simp only [Option.some.injEq,Prod.mk.injEq] at H
           obtain ⟨rfl,rfl⟩:=H
           obtain ⟨ASz21_0,cSz21_0,HGz21,hgz21,HSz21_0⟩:=HI0.out
           have hcz21_0:=cellS74_0 HGz21
           have hcz21_1:=cellS74_1 HGz21
           have hfz21_1:=blk_frozen HGz21 1
           clear HGz21 hgz21
           have p105:0≤((ji14):Int):=of_decide_eq_true (by first|(with_reducible assumption)|assumption)
           have q105:(ji14)<(s0_0.length:Int):=of_decide_eq_true (by first|(with_reducible assumption)|assumption)
           obtain ⟨ad105,e105,hx105_0⟩:=Kd.at_int HSz21_0 (ji14) p105 q105
           cases e105
           replace hx105_0:=pw_cell_below HB.out hx105_0
           replace p105:=eq_true p105
           replace q105:=eq_true q105
           have p106:0≤((ji17):Int):=of_decide_eq_true (by first|(with_reducible assumption)|assumption)
           have q106:(ji17)<(s0_0.length:Int):=of_decide_eq_true (by first|(with_reducible assumption)|assumption)
           obtain ⟨ad106,e106,hx106_0⟩:=Kd.at_int HSz21_0 (ji17) p106 q106
           obtain rfl:ad105=ad106:=(by injection e106)
           replace hx106_0:=pw_cell_below HB.out hx106_0
           replace p106:=eq_true p106
           replace q106:=eq_true q106
           go_wp2
           repeat (go_quiet (fail);try go_wp2)
           go_ret
           exact ⟨by first|rfl|(simp [errW_none,errW_some]<;>rfl)|(simp only [← hji14,← hji17];first|rfl|(simp [errW_none,errW_some]<;>rfl))|(simp [*,errW_none,errW_some]<;>rfl),by repeat (first|(with_reducible first|exact HI0.out|apply IsS74.alloc|apply IsS74.drewN|apply IsS74.drew|apply IsS74.set_1)|exact HI0.out),by repeat (first|(with_reducible first|exact HB.out|apply yA|apply yB|apply yC|refine yD ?_ (IsS74.ge HI0.out))|exact HB.out),by repeat (first|(with_reducible first|exact HK.out|apply KeepBut.set_|apply keep_drewN|apply keep_drew|apply keep_alloc)|exact HK.out)⟩
         ·rw [if_neg c19] at H
          exact absurd H (by simp)
        ·rw [if_neg c18] at H
         exact absurd H (by simp)
       ·rw [if_neg c16] at H
        exact absurd H (by simp)
      ·rw [if_neg c15] at H
       exact absurd H (by simp)

end Go.Proofs.Ytneadgionjlicaa.P

namespace Go.Proofs.Ytneadgionjlicaa.P
open Go.RowKit Go.Proofs.YtneadgionjlicaaW.PrintWords Go.Proofs.YtneadgionjlicaaW.PrintLast Go.Proofs.YtneadgionjlicaaW.PrintMore
attribute [local go_sem] max2_int min2_int max_two min_two max_three min_three max_four min_four   -- for this text's walks alone
set_option linter.unusedVariables false
set_option linter.unusedSimpArgs false

/-! ### spec_l6mStep: function 81 -/
def spec_l6mStep.l0:Nat→Int→Int→Int→List Int→Int→Int→Option (Int)
 | 0,_,_,_,_,_,_=>none
 | k+1,x1,x5,x6,x494000,x494001,x494002=>if x6<(x494000.length:Int) then (if 0≤x6 then (if (Go.bits .and .i64 (shr .i64 x1 x6) 1)=1 then (spec_l6mStep.l0 k x1 (Go.bits .or .i64 x5 (rd x494000 x6)) (wrap64 (x6+1)) x494000 x494001 x494002) else (spec_l6mStep.l0 k x1 x5 (wrap64 (x6+1)) x494000 x494001 x494002)) else (none)) else (some x5)
def spec_l6mStep.f (k:Nat) (l0_0:List Int) (a0_1:Int) (a0_2:Int) (a1:Int):Option (Int):=spec_l6mStep.l0 k a1 0 0 l0_0 a0_1 a0_2
theorem spec_l6mStep.mono_l:∀ k,(∀ y0 y1 y2 y3 y4 y5,LeO (spec_l6mStep.l0 k y0 y1 y2 y3 y4 y5) (spec_l6mStep.l0 (k+1) y0 y1 y2 y3 y4 y5))
 | 0=>fun _ _ _ _ _ _ r h=>by simp [spec_l6mStep.l0] at h
 | k+1=>by
  have ih0:=spec_l6mStep.mono_l k
  ·intro y0 y1 y2 y3 y4 y5
   unfold spec_l6mStep.l0
   repeat' first
   | (with_reducible exact ih0 _ _ _ _ _ _)
   | (with_reducible exact LeO.refl _)
   | (with_reducible exact LeO.none _)
   | (with_reducible refine LeO.ite ?_ ?_)
   | (with_reducible refine LeO.bind ?_ (fun _=>?_))
   | exact ih0 _ _ _ _ _ _
   | exact LeO.none _
   | refine LeO.ite ?_ ?_
   | refine LeO.bind ?_ (fun _=>?_)
theorem spec_l6mStep.mono:∀ a0 a1 a2 a3 k,LeO (spec_l6mStep.f k a0 a1 a2 a3) (spec_l6mStep.f (k+1) a0 a1 a2 a3):=by
 intro a0 a1 a2 a3 k
 have ih0:=spec_l6mStep.mono_l k
 unfold spec_l6mStep.f
 repeat' first
   | (with_reducible exact ih0 _ _ _ _ _ _)
   | (with_reducible exact LeO.refl _)
   | (with_reducible exact LeO.none _)
   | (with_reducible refine LeO.ite ?_ ?_)
   | (with_reducible refine LeO.bind ?_ (fun _=>?_))
   | exact ih0 _ _ _ _ _ _
   | exact LeO.none _
   | refine LeO.ite ?_ ?_
   | refine LeO.bind ?_ (fun _=>?_)
set_option maxHeartbeats 8000000 in
set_option maxRecDepth 100000 in
theorem spec_l6mStep.calls (k:Nat) (A0_0:Option Addr) (c0_0:Nat) (l0_0:List Int) (a0_1:Int) (a0_2:Int) (a1:Int) (r:Int) (w:World) (hr0_0:Kd.C (Kd.int .i64) w A0_0 l0_0.length l0_0) (hc0_0:l0_0.length≤c0_0) (h:spec_l6mStep.f k l0_0 a0_1 a0_2 a1=some r) :
  Calls Try.prog 81 #[.agg #[.slice A0_0 l0_0.length c0_0,.int .i64 a0_1,.int .i64 a0_2],.int .i64 a1] w fun e w'=>e=.returned (.int .i64 r)∧Below w.heap.size w w':=by
 have hu31:=Try.underlying31
 have HR0_0:=Aside0.mk hr0_0
 have HC0_0:=Aside0.mk hc0_0
 clear hr0_0 hc0_0
 have HB:=Aside0.mk (Below.refl w.heap.size w)
 have H:(spec_l6mStep.l0 k a1 0 0 l0_0 a0_1 a0_2)=some r:=h
 clear h
 have H':=Aside0.mk H
 clear H
 go_enter Try.func81,Try.ntmps81
 go_wp2_with (first|((with_reducible refine gate_dst (N:=2) rfl ?_);refine box_event ?hg (N:=2) ?hd (cs:=#[.slice A0_0 l0_0.length c0_0,.int .i64 a0_1,.int .i64 a0_2]) (t:=31) ?hr ?_;(case hd=>rfl);(case hg=>rfl);(case hr=>first|(go_simp;done)|(go_simp;rfl));intro gb493 hg w3 hbox hb;have n0_:=Aside0.mk (yP (by repeat (first|(with_reducible first|exact HB.out|apply yA|apply yB|apply yC)|exact HB.out)) hb);have n1_:=Aside0.mk (hbox);have n2_:=Aside0.mk ((by rw [hg];exact (yQ (by repeat (first|(with_reducible first|exact HB.out|apply yA|apply yB|apply yC)|exact HB.out))):w.heap.size≤gb493));have n3_:=Aside0.mk ((by rw [hg];exact (yQ (by repeat (first|(with_reducible first|exact HB.out|apply yA|apply yB|apply yC)|exact HB.out))):w.heap.size≤gb493));clear HB;have HB:=n0_;have BK493:=n1_;have GW493:=n2_;have GE493:=n3_;clear n0_ n1_ n2_ n3_;clear hb hbox hg))
 go_loopg [5,6] k (fun kq v5 v6 w'=>∃ (x5_1:Int) (x6_1:Int),v5=.int .i64 x5_1∧v6=.int .i64 x6_1∧Aside0 (spec_l6mStep.l0 kq a1 x5_1 x6_1 l0_0 a0_1 a0_2=some r)∧Aside0 (kq≤k)∧Aside0 (w'.heap[gb493]?=some (.cells #[(.slice A0_0 l0_0.length c0_0),.int .i64 a0_1,.int .i64 a0_2] 31 (0,0)))∧Aside0 (Below w.heap.size w w'))
 case atStart=>exact ⟨(0),(0),(by first|rfl|(simp;done)|(simp [*];done)|(simp [Int.tmod_eq_emod_of_nonneg];done)),(by first|rfl|(simp;done)|(simp [*];done)|(simp [Int.tmod_eq_emod_of_nonneg];done)),H',⟨Nat.le_refl _⟩,⟨by (with_reducible repeat (first|refine yE ?_ _|refine yF ?_|refine yG ?_ _));exact BK493.out⟩,⟨by repeat (first|(with_reducible first|exact HB.out|apply yA|apply yB|apply yC|refine yD ?_ GE493.out)|exact HB.out)⟩⟩
 case round =>
  clear H'
  try clear p2
  obtain ⟨x5_1,x6_1,rfl,rfl,HA,HK1,BK493,HB⟩:=hrel
  cases gk with
  | zero=>exact absurd HA.out (by simp [spec_l6mStep.l0])
  | succ k1 =>
   have H:=HA.out
   clear HA
   simp only [spec_l6mStep.l0] at H
   by_cases c4:x6_1<(l0_0.length:Int)
   ·rw [if_pos c4] at H
    have c4b0:decide (x6_1<(l0_0.length:Int))=true:=decide_eq_true c4
    clear c4
    by_cases c5:0≤x6_1
    ·rw [if_pos c5] at H
     have c5b0:=eq_true c5
     have c5b1:decide (0≤x6_1)=true:=decide_eq_true c5
     clear c5
     obtain ⟨ji6,hji6⟩:∃ j_:Int,(shr .i64 a1 x6_1)=j_:=⟨_,rfl⟩
     replace H:(if (Go.bits .and .i64 (ji6) 1)=1 then (spec_l6mStep.l0 k1 a1 (Go.bits .or .i64 x5_1 (rd l0_0 x6_1)) (wrap64 (x6_1+1)) l0_0 a0_1 a0_2) else (spec_l6mStep.l0 k1 a1 x5_1 (wrap64 (x6_1+1)) l0_0 a0_1 a0_2))=some r:=by first|(rw [hji6] at H;exact H)|(simp only [hji6] at H ⊢;exact H)
     have hji6_:(a1 / 2 ^ min x6_1.toNat 64)=ji6:=hji6
     have hji6z:x6_1≤64→(a1 / 2 ^ x6_1.toNat)=ji6:=shr_small hji6
     by_cases c7:(Go.bits .and .i64 (ji6) 1)=1
     ·rw [if_pos c7] at H
      have c7b0:((Go.bits .and .i64 (ji6) 1) == 1)=true:=beq_iff_eq.mpr c7
      have c7b1:((Go.bits .and .i64 (ji6) 1) != 1)=false:=bne_eq_false_iff_eq.mpr c7
      clear c7
      have H':=Aside0.mk H
      clear H
      have hcz8_0:wr.cell? ⟨gb493,0,none⟩=some (.slice A0_0 l0_0.length c0_0):=(blk_cell BK493.out 0).trans rfl
      have hcz8_1:wr.cell? ⟨gb493,1,none⟩=some (.int .i64 a0_1):=(blk_cell BK493.out 1).trans rfl
      have hcz8_2:wr.cell? ⟨gb493,2,none⟩=some (.int .i64 a0_2):=(blk_cell BK493.out 2).trans rfl
      have hfz8_0:=blk_frozen BK493.out 0
      have hfz8_1:=blk_frozen BK493.out 1
      have hfz8_2:=blk_frozen BK493.out 2
      have p494:0≤(x6_1:Int):=of_decide_eq_true (by first|(with_reducible assumption)|assumption)
      have q494:x6_1<(l0_0.length:Int):=of_decide_eq_true (by first|(with_reducible assumption)|assumption)
      obtain ⟨ad494,e494,hx494_0⟩:=Kd.at_int HR0_0.out x6_1 p494 q494
      cases e494
      replace hx494_0:=(HB.out.cell (World.block_lt_of_cell? w _ hx494_0)).trans hx494_0
      replace p494:=eq_true p494
      replace q494:=eq_true q494
      go_wp2
      go_roundg k1
      case measure=>have:=HK1.out;omega
      case rel=>exact ⟨(Go.bits .or .i64 x5_1 (rd l0_0 x6_1)),(wrap64 (x6_1+1)),(by first|rfl|(simp;done)|(simp [*];done)|(simp [Int.tmod_eq_emod_of_nonneg];done)),(by first|rfl|(simp;done)|(simp [*];done)|(simp [Int.tmod_eq_emod_of_nonneg];done)),H',⟨by have:=HK1.out;omega⟩,⟨by (with_reducible repeat (first|refine yE ?_ _|refine yF ?_|refine yG ?_ _));exact BK493.out⟩,⟨by repeat (first|(with_reducible first|exact HB.out|apply yA|apply yB|apply yC|refine yD ?_ GE493.out)|exact HB.out)⟩⟩
     ·rw [if_neg c7] at H
      have c7b0:((Go.bits .and .i64 (ji6) 1) == 1)=false:=beq_eq_false_iff_ne.mpr c7
      have c7b1:((Go.bits .and .i64 (ji6) 1) != 1)=true:=bne_iff_ne.mpr c7
      have H':=Aside0.mk H
      clear H
      have hcz9_0:wr.cell? ⟨gb493,0,none⟩=some (.slice A0_0 l0_0.length c0_0):=(blk_cell BK493.out 0).trans rfl
      have hcz9_1:wr.cell? ⟨gb493,1,none⟩=some (.int .i64 a0_1):=(blk_cell BK493.out 1).trans rfl
      have hcz9_2:wr.cell? ⟨gb493,2,none⟩=some (.int .i64 a0_2):=(blk_cell BK493.out 2).trans rfl
      have hfz9_0:=blk_frozen BK493.out 0
      have hfz9_1:=blk_frozen BK493.out 1
      have hfz9_2:=blk_frozen BK493.out 2
      go_wp2
      go_roundg k1
      case measure=>have:=HK1.out;omega
      case rel=>exact ⟨(x5_1),(wrap64 (x6_1+1)),(by first|rfl|(simp;done)|(simp [*];done)|(simp [Int.tmod_eq_emod_of_nonneg];done)),(by first|rfl|(simp;done)|(simp [*];done)|(simp [Int.tmod_eq_emod_of_nonneg];done)),H',⟨by have:=HK1.out;omega⟩,⟨by (with_reducible repeat (first|refine yE ?_ _|refine yF ?_|refine yG ?_ _));exact BK493.out⟩,⟨by repeat (first|(with_reducible first|exact HB.out|apply yA|apply yB|apply yC|refine yD ?_ GE493.out)|exact HB.out)⟩⟩
    ·rw [if_neg c5] at H
     exact absurd H (by simp)
   ·rw [if_neg c4] at H
    have c4b0:decide (x6_1<(l0_0.length:Int))=false:=decide_eq_false c4
    clear c4
    obtain rfl:=Option.some.inj H
    have hcz10_0:wr.cell? ⟨gb493,0,none⟩=some (.slice A0_0 l0_0.length c0_0):=(blk_cell BK493.out 0).trans rfl
    have hcz10_1:wr.cell? ⟨gb493,1,none⟩=some (.int .i64 a0_1):=(blk_cell BK493.out 1).trans rfl
    have hcz10_2:wr.cell? ⟨gb493,2,none⟩=some (.int .i64 a0_2):=(blk_cell BK493.out 2).trans rfl
    have hfz10_0:=blk_frozen BK493.out 0
    have hfz10_1:=blk_frozen BK493.out 1
    have hfz10_2:=blk_frozen BK493.out 2
    go_wp2
    go_ret
    exact ⟨by first|rfl|(simp [errW_none,errW_some]<;>rfl)|(simp [*,errW_none,errW_some]<;>rfl)|(simp [errW_none,errW_some];exact ⟨rfl,rfl⟩),by repeat (first|(with_reducible first|exact HB.out|apply yA|apply yB|apply yC|refine yD ?_ GE493.out)|exact HB.out)⟩

end Go.Proofs.Ytneadgionjlicaa.P

namespace Go.Proofs.Ytneadgionjlicaa.P
open Go.RowKit Go.Proofs.YtneadgionjlicaaW.PrintWords Go.Proofs.YtneadgionjlicaaW.PrintLast Go.Proofs.YtneadgionjlicaaW.PrintMore
attribute [local go_sem] max2_int min2_int max_two min_two max_three min_three max_four min_four   -- for this text's walks alone
set_option linter.unusedVariables false
set_option linter.unusedSimpArgs false

/-! ### spec_l6mShape: function 66 -/
def spec_l6mShape.l0:Nat→List Int→List Int→Int→List Int→Int→Int→Option (List Int × Int)
 | 0,_,_,_,_,_,_=>none
 | k+1,x4,x5,x6,x496000,x496001,x496002=>if 0≤x6 then (if x6<(x5.length:Int) then (if (rd x5 x6)=0 then (if x4.length<17592186044416 then ((some (x4++[x6]:List Int)).bind fun y503=>((spec_l6mStep.f k x496000 x496001 x496002 x6).bind fun t507=>(spec_l6mShape.l0 k y503 (x5.set (x6:Int).toNat (y503.length:Int)) t507 x496000 x496001 x496002))) else (none)) else (some (x4,wrap64 ((rd x5 x6) - 1)))) else (none)) else (none)
def spec_l6mShape.f (k:Nat) (l0_0:List Int) (a0_1:Int) (a0_2:Int):Option (List Int × Int):=if 0≤(shl .i64 1 (l0_0.length:Int)) then (if (shl .i64 1 (l0_0.length:Int):Int).toNat≤35184372088832 then (spec_l6mShape.l0 k (([]:List Int)) (List.replicate (shl .i64 1 (l0_0.length:Int):Int).toNat 0) a0_1 l0_0 a0_1 a0_2) else (none)) else (none)
theorem spec_l6mShape.mono_l:∀ k,(∀ y0 y1 y2 y3 y4 y5,LeO (spec_l6mShape.l0 k y0 y1 y2 y3 y4 y5) (spec_l6mShape.l0 (k+1) y0 y1 y2 y3 y4 y5))
 | 0=>fun _ _ _ _ _ _ r h=>by simp [spec_l6mShape.l0] at h
 | k+1=>by
  have ih0:=spec_l6mShape.mono_l k
  ·intro y0 y1 y2 y3 y4 y5
   unfold spec_l6mShape.l0
   repeat' first
   | (with_reducible exact ih0 _ _ _ _ _ _)
   | (with_reducible exact spec_l6mStep.mono _ _ _ _ _)
   | (with_reducible exact LeO.refl _)
   | (with_reducible exact LeO.none _)
   | (with_reducible refine LeO.ite ?_ ?_)
   | (with_reducible refine LeO.bind ?_ (fun _=>?_))
   | exact ih0 _ _ _ _ _ _
   | exact spec_l6mStep.mono _ _ _ _ _
   | exact LeO.none _
   | refine LeO.ite ?_ ?_
   | refine LeO.bind ?_ (fun _=>?_)
theorem spec_l6mShape.mono:∀ a0 a1 a2 k,LeO (spec_l6mShape.f k a0 a1 a2) (spec_l6mShape.f (k+1) a0 a1 a2):=by
 intro a0 a1 a2 k
 have ih0:=spec_l6mShape.mono_l k
 unfold spec_l6mShape.f
 repeat' first
   | (with_reducible exact ih0 _ _ _ _ _ _)
   | (with_reducible exact spec_l6mStep.mono _ _ _ _ _)
   | (with_reducible exact LeO.refl _)
   | (with_reducible exact LeO.none _)
   | (with_reducible refine LeO.ite ?_ ?_)
   | (with_reducible refine LeO.bind ?_ (fun _=>?_))
   | exact ih0 _ _ _ _ _ _
   | exact spec_l6mStep.mono _ _ _ _ _
   | exact LeO.none _
   | refine LeO.ite ?_ ?_
   | refine LeO.bind ?_ (fun _=>?_)
set_option maxHeartbeats 8000000 in
set_option maxRecDepth 100000 in
theorem spec_l6mShape.calls (k:Nat) (A0_0:Option Addr) (c0_0:Nat) (l0_0:List Int) (a0_1:Int) (a0_2:Int) (r1:List Int) (r2:Int) (w:World) (hr0_0:Kd.C (Kd.int .i64) w A0_0 l0_0.length l0_0) (hc0_0:l0_0.length≤c0_0) (h:spec_l6mShape.f k l0_0 a0_1 a0_2=some (r1,r2)) :
  Calls Try.prog 66 #[.agg #[.slice A0_0 l0_0.length c0_0,.int .i64 a0_1,.int .i64 a0_2]] w fun e w'=>∃ v0_:Value,e=.returned (.tuple #[v0_,.int .i64 r2])∧Kd.R (Kd.int .i64) 3 w' w.heap.size (fun _=>True) v0_ r1∧Below w.heap.size w w':=by
 have hu31:=Try.underlying31
 have HR0_0:=Aside0.mk hr0_0
 have HC0_0:=Aside0.mk hc0_0
 clear hr0_0 hc0_0
 have HB:=Aside0.mk (Below.refl w.heap.size w)
 have H:(if 0≤(shl .i64 1 (l0_0.length:Int)) then (if (shl .i64 1 (l0_0.length:Int):Int).toNat≤35184372088832 then (spec_l6mShape.l0 k (([]:List Int)) (List.replicate (shl .i64 1 (l0_0.length:Int):Int).toNat 0) a0_1 l0_0 a0_1 a0_2) else (none)) else (none))=some (r1,r2):=h
 clear h
 obtain ⟨y496,hy496⟩:∃ y_:List Int,y_=(([]:List Int)):=⟨_,rfl⟩
 replace H:(if 0≤(shl .i64 1 (l0_0.length:Int)) then (if (shl .i64 1 (l0_0.length:Int):Int).toNat≤35184372088832 then (spec_l6mShape.l0 k y496 (List.replicate (shl .i64 1 (l0_0.length:Int):Int).toNat 0) a0_1 l0_0 a0_1 a0_2) else (none)) else (none))=some (r1,r2):=by first|(rw [hy496];with_reducible exact H)|(have H2_:=(Option.bind_some _ _).symm.trans H;rw [hy496];with_reducible exact H2_)|(have H2_:=(Option.bind_some _ _).symm.trans H;with_reducible exact H2_)|with_reducible exact H|(rw [hy496];exact H)|exact H
 have Ny496:=Aside0.mk hy496
 clear hy496
 obtain ⟨ji2,hji2⟩:∃ j_:Int,(shl .i64 1 (l0_0.length:Int))=j_:=⟨_,rfl⟩
 replace H:(if 0≤(ji2) then (if (ji2:Int).toNat≤35184372088832 then (spec_l6mShape.l0 k y496 (List.replicate (ji2:Int).toNat 0) a0_1 l0_0 a0_1 a0_2) else (none)) else (none))=some (r1,r2):=by first|(rw [hji2] at H;exact H)|(simp only [hji2] at H ⊢;exact H)
 have hji2_:(IntKind.i64.wrap (1 * 2 ^ min (l0_0.length:Int).toNat 64))=ji2:=hji2
 have hji2z:(l0_0.length:Int)≤64→(IntKind.i64.wrap (1 * 2 ^ (l0_0.length:Int).toNat))=ji2:=shl_small hji2
 have hji2p:(IntKind.i64.wrap (1 * 2 ^ min l0_0.length 64))=ji2:=hji2_
 have hji2q:(l0_0.length:Int)≤64→(IntKind.i64.wrap (1 * 2 ^ l0_0.length))=ji2:=hji2z
 have hji2r:(IntKind.i64.wrap (2 ^ min l0_0.length 64))=ji2:=by have h_:=hji2p;rw [Int.one_mul] at h_;exact h_
 have hji2s:(l0_0.length:Int)≤64→(IntKind.i64.wrap (2 ^ l0_0.length))=ji2:=fun hle_=>by have h_:=hji2q hle_;rw [Int.one_mul] at h_;exact h_
 have hji2u:(IntKind.i64.wrap (2 ^ min (l0_0.length:Int).toNat 64))=ji2:=by have h_:=hji2_;rw [Int.one_mul] at h_;exact h_
 have hji2v:(l0_0.length:Int)≤64→(IntKind.i64.wrap (2 ^ (l0_0.length:Int).toNat))=ji2:=fun hle_=>by have h_:=hji2z hle_;rw [Int.one_mul] at h_;exact h_
 have hji2y:(wrap64 (1 * 2 ^ min (l0_0.length:Int).toNat 64))=ji2:=(i64_w _).symm.trans hji2_
 have hji2x:(l0_0.length:Int)≤64→(wrap64 (1 * 2 ^ (l0_0.length:Int).toNat))=ji2:=fun h_=>(i64_w _).symm.trans (hji2z h_)
 by_cases c3:0≤(ji2)
 ·rw [if_pos c3] at H
  have c3b0:=eq_true c3
  have c3b1:decide (0≤(ji2))=true:=decide_eq_true c3
  clear c3
  by_cases c4:(ji2:Int).toNat≤35184372088832
  ·rw [if_pos c4] at H
   have c4b0:=eq_true c4
   have c4b1:decide ((ji2:Int).toNat≤35184372088832)=true:=decide_eq_true c4
   clear c4
   obtain ⟨y499,hy499⟩:∃ y_:List Int,y_=(List.replicate (ji2:Int).toNat 0):=⟨_,rfl⟩
   replace H:(spec_l6mShape.l0 k y496 y499 a0_1 l0_0 a0_1 a0_2)=some (r1,r2):=by first|(rw [hy499];with_reducible exact H)|(have H2_:=(Option.bind_some _ _).symm.trans H;rw [hy499];with_reducible exact H2_)|(have H2_:=(Option.bind_some _ _).symm.trans H;with_reducible exact H2_)|with_reducible exact H|(rw [hy499];exact H)|exact H
   have Ny499:=Aside0.mk hy499
   clear hy499
   have H':=Aside0.mk H
   clear H
   go_enter Try.func66,Try.ntmps66
   go_wp2_with (first|((with_reducible refine gate_dst (N:=1) rfl ?_);refine box_event ?hg (N:=1) ?hd (cs:=#[.slice A0_0 l0_0.length c0_0,.int .i64 a0_1,.int .i64 a0_2]) (t:=31) ?hr ?_;(case hd=>rfl);(case hg=>rfl);(case hr=>first|(go_simp;done)|(go_simp;rfl));intro gb495 hg w5 hbox hb;have n0_:=Aside0.mk (yP (by repeat (first|(with_reducible first|exact HB.out|apply yA|apply yB|apply yC)|exact HB.out)) hb);have n1_:=Aside0.mk (hbox);have n2_:=Aside0.mk ((by rw [hg];exact (yQ (by repeat (first|(with_reducible first|exact HB.out|apply yA|apply yB|apply yC)|exact HB.out))):w.heap.size≤gb495));have n3_:=Aside0.mk ((by rw [hg];exact (yQ (by repeat (first|(with_reducible first|exact HB.out|apply yA|apply yB|apply yC)|exact HB.out))):w.heap.size≤gb495));clear HB;have HB:=n0_;have BK495:=n1_;have GW495:=n2_;have GE495:=n3_;clear n0_ n1_ n2_ n3_;clear hb hbox hg)|((with_reducible refine gate_dst (N:=7) rfl ?_);refine Kd.R_lit (Kd.int .i64) _ 3 ?hg (N:=7) ?hd (xs:=([]:List Int)) (inner:=[]) (ok:=fun _=>True) (okp:=fun _=>True) ?hr ?hp (fun _ hk=>hk) trivial (Below.refl _ _) (Nat.le_refl _) (by simp) ?_;(case hd=>rfl);(case hg=>rfl);(case hr=>first|(go_simp;done)|(go_simp;rfl));(case hp=>exact (Reps.none _ _));intro v497 w6 ho7 hb hg_ hnew_;clear hg_ hnew_;(first|rw [← Ny496.out] at ho7|(simp only [Int.reduceToNat] at ho7;rw [← Ny496.out] at ho7));have n0_:=Aside0.mk (Kd.R_lower ho7 (yQ (by repeat (first|(with_reducible first|exact HB.out|apply yA|apply yB|apply yC|refine yD ?_ GE495.out)|exact HB.out))));have n1_:=Aside0.mk (blk_below (g:=gb495) (o:=.cells #[.slice A0_0 l0_0.length c0_0,.int .i64 a0_1,.int .i64 a0_2] 31 (0,0)) (by (with_reducible repeat (first|refine yE ?_ _|refine yF ?_|refine yG ?_ _));exact BK495.out) hb);have n2_:=Aside0.mk (yP (by repeat (first|(with_reducible first|exact HB.out|apply yA|apply yB|apply yC|refine yD ?_ GE495.out)|exact HB.out)) hb);clear BK495;clear HB;have HO498:=n0_;have BK495:=n1_;have HB:=n2_;clear n0_ n1_ n2_;clear hb ho7;have hcz8_0:w6.cell? ⟨gb495,0,none⟩=some (.slice A0_0 l0_0.length c0_0):=(blk_cell BK495.out 0).trans rfl;have hcz8_1:w6.cell? ⟨gb495,1,none⟩=some (.int .i64 a0_1):=(blk_cell BK495.out 1).trans rfl;have hcz8_2:w6.cell? ⟨gb495,2,none⟩=some (.int .i64 a0_2):=(blk_cell BK495.out 2).trans rfl;have hfz8_0:=blk_frozen BK495.out 0;have hfz8_1:=blk_frozen BK495.out 1;have hfz8_2:=blk_frozen BK495.out 2)|((with_reducible refine gate_dst (N:=12) rfl ?_);refine Kd.R_make (Kd.int .i64) _ 3 rfl (N:=12) rfl 29 _ _ rfl ji2 rfl rfl Try.underlying29 (.int .i64 0) 8 info3 rfl (by decide) (by omega) 0 (ok:=fun _=>True) (okp:=fun _=>True) rfl (fun _ hk=>hk) trivial (of_decide_eq_true (by first|(with_reducible assumption)|assumption)) (Nat.le_trans (Nat.mul_le_mul_right _ (of_decide_eq_true (by first|(with_reducible assumption)|assumption):ji2.toNat≤35184372088832)) (by omega)) (Below.refl _ _) (Nat.le_refl _) ?_;intro v500 w9 ho10 hb hg_ hnew_;clear hg_ hnew_;(first|rw [← Ny499.out] at ho10|(simp only [Int.reduceToNat] at ho10;rw [← Ny499.out] at ho10));have n0_:=Aside0.mk (Kd.R_elder' (by (with_reducible repeat (first|apply yH|apply yI|apply yJ));exact HO498.out) (Kd.R_base ho10) hb);have n1_:=Aside0.mk (Kd.R_lower (Kd.R_new' ho10 (Kd.R_lt (by (with_reducible repeat (first|apply yH|apply yI|apply yJ));exact HO498.out))) (yQ (by repeat (first|(with_reducible first|exact HB.out|apply yA|apply yB|apply yC|refine yD ?_ GE495.out)|exact HB.out))));have n2_:=Aside0.mk (blk_below (g:=gb495) (o:=.cells #[.slice A0_0 l0_0.length c0_0,.int .i64 a0_1,.int .i64 a0_2] 31 (0,0)) (by (with_reducible repeat (first|refine yE ?_ _|refine yF ?_|refine yG ?_ _));exact BK495.out) hb);have n3_:=Aside0.mk (yP (by repeat (first|(with_reducible first|exact HB.out|apply yA|apply yB|apply yC|refine yD ?_ GE495.out)|exact HB.out)) hb);clear HO498;clear BK495;clear HB;have HO498:=n0_;have HO501:=n1_;have BK495:=n2_;have HB:=n3_;clear n0_ n1_ n2_ n3_;clear hb ho10;have hcz11_0:w9.cell? ⟨gb495,0,none⟩=some (.slice A0_0 l0_0.length c0_0):=(blk_cell BK495.out 0).trans rfl;have hcz11_1:w9.cell? ⟨gb495,1,none⟩=some (.int .i64 a0_1):=(blk_cell BK495.out 1).trans rfl;have hcz11_2:w9.cell? ⟨gb495,2,none⟩=some (.int .i64 a0_2):=(blk_cell BK495.out 2).trans rfl;have hfz11_0:=blk_frozen BK495.out 0;have hfz11_1:=blk_frozen BK495.out 1;have hfz11_2:=blk_frozen BK495.out 2))
   repeat (go_quiet (first|((with_reducible refine gate_dst (N:=1) rfl ?_);refine box_event ?hg (N:=1) ?hd (cs:=#[.slice A0_0 l0_0.length c0_0,.int .i64 a0_1,.int .i64 a0_2]) (t:=31) ?hr ?_;(case hd=>rfl);(case hg=>rfl);(case hr=>first|(go_simp;done)|(go_simp;rfl));intro gb495 hg w5 hbox hb;have n0_:=Aside0.mk (yP (by repeat (first|(with_reducible first|exact HB.out|apply yA|apply yB|apply yC)|exact HB.out)) hb);have n1_:=Aside0.mk (hbox);have n2_:=Aside0.mk ((by rw [hg];exact (yQ (by repeat (first|(with_reducible first|exact HB.out|apply yA|apply yB|apply yC)|exact HB.out))):w.heap.size≤gb495));have n3_:=Aside0.mk ((by rw [hg];exact (yQ (by repeat (first|(with_reducible first|exact HB.out|apply yA|apply yB|apply yC)|exact HB.out))):w.heap.size≤gb495));clear HB;have HB:=n0_;have BK495:=n1_;have GW495:=n2_;have GE495:=n3_;clear n0_ n1_ n2_ n3_;clear hb hbox hg)|((with_reducible refine gate_dst (N:=7) rfl ?_);refine Kd.R_lit (Kd.int .i64) _ 3 ?hg (N:=7) ?hd (xs:=([]:List Int)) (inner:=[]) (ok:=fun _=>True) (okp:=fun _=>True) ?hr ?hp (fun _ hk=>hk) trivial (Below.refl _ _) (Nat.le_refl _) (by simp) ?_;(case hd=>rfl);(case hg=>rfl);(case hr=>first|(go_simp;done)|(go_simp;rfl));(case hp=>exact (Reps.none _ _));intro v497 w6 ho7 hb hg_ hnew_;clear hg_ hnew_;(first|rw [← Ny496.out] at ho7|(simp only [Int.reduceToNat] at ho7;rw [← Ny496.out] at ho7));have n0_:=Aside0.mk (Kd.R_lower ho7 (yQ (by repeat (first|(with_reducible first|exact HB.out|apply yA|apply yB|apply yC|refine yD ?_ GE495.out)|exact HB.out))));have n1_:=Aside0.mk (blk_below (g:=gb495) (o:=.cells #[.slice A0_0 l0_0.length c0_0,.int .i64 a0_1,.int .i64 a0_2] 31 (0,0)) (by (with_reducible repeat (first|refine yE ?_ _|refine yF ?_|refine yG ?_ _));exact BK495.out) hb);have n2_:=Aside0.mk (yP (by repeat (first|(with_reducible first|exact HB.out|apply yA|apply yB|apply yC|refine yD ?_ GE495.out)|exact HB.out)) hb);clear BK495;clear HB;have HO498:=n0_;have BK495:=n1_;have HB:=n2_;clear n0_ n1_ n2_;clear hb ho7;have hcz8_0:w6.cell? ⟨gb495,0,none⟩=some (.slice A0_0 l0_0.length c0_0):=(blk_cell BK495.out 0).trans rfl;have hcz8_1:w6.cell? ⟨gb495,1,none⟩=some (.int .i64 a0_1):=(blk_cell BK495.out 1).trans rfl;have hcz8_2:w6.cell? ⟨gb495,2,none⟩=some (.int .i64 a0_2):=(blk_cell BK495.out 2).trans rfl;have hfz8_0:=blk_frozen BK495.out 0;have hfz8_1:=blk_frozen BK495.out 1;have hfz8_2:=blk_frozen BK495.out 2)|((with_reducible refine gate_dst (N:=12) rfl ?_);refine Kd.R_make (Kd.int .i64) _ 3 rfl (N:=12) rfl 29 _ _ rfl ji2 rfl rfl Try.underlying29 (.int .i64 0) 8 info3 rfl (by decide) (by omega) 0 (ok:=fun _=>True) (okp:=fun _=>True) rfl (fun _ hk=>hk) trivial (of_decide_eq_true (by first|(with_reducible assumption)|assumption)) (Nat.le_trans (Nat.mul_le_mul_right _ (of_decide_eq_true (by first|(with_reducible assumption)|assumption):ji2.toNat≤35184372088832)) (by omega)) (Below.refl _ _) (Nat.le_refl _) ?_;intro v500 w9 ho10 hb hg_ hnew_;clear hg_ hnew_;(first|rw [← Ny499.out] at ho10|(simp only [Int.reduceToNat] at ho10;rw [← Ny499.out] at ho10));have n0_:=Aside0.mk (Kd.R_elder' (by (with_reducible repeat (first|apply yH|apply yI|apply yJ));exact HO498.out) (Kd.R_base ho10) hb);have n1_:=Aside0.mk (Kd.R_lower (Kd.R_new' ho10 (Kd.R_lt (by (with_reducible repeat (first|apply yH|apply yI|apply yJ));exact HO498.out))) (yQ (by repeat (first|(with_reducible first|exact HB.out|apply yA|apply yB|apply yC|refine yD ?_ GE495.out)|exact HB.out))));have n2_:=Aside0.mk (blk_below (g:=gb495) (o:=.cells #[.slice A0_0 l0_0.length c0_0,.int .i64 a0_1,.int .i64 a0_2] 31 (0,0)) (by (with_reducible repeat (first|refine yE ?_ _|refine yF ?_|refine yG ?_ _));exact BK495.out) hb);have n3_:=Aside0.mk (yP (by repeat (first|(with_reducible first|exact HB.out|apply yA|apply yB|apply yC|refine yD ?_ GE495.out)|exact HB.out)) hb);clear HO498;clear BK495;clear HB;have HO498:=n0_;have HO501:=n1_;have BK495:=n2_;have HB:=n3_;clear n0_ n1_ n2_ n3_;clear hb ho10;have hcz11_0:w9.cell? ⟨gb495,0,none⟩=some (.slice A0_0 l0_0.length c0_0):=(blk_cell BK495.out 0).trans rfl;have hcz11_1:w9.cell? ⟨gb495,1,none⟩=some (.int .i64 a0_1):=(blk_cell BK495.out 1).trans rfl;have hcz11_2:w9.cell? ⟨gb495,2,none⟩=some (.int .i64 a0_2):=(blk_cell BK495.out 2).trans rfl;have hfz11_0:=blk_frozen BK495.out 0;have hfz11_1:=blk_frozen BK495.out 1;have hfz11_2:=blk_frozen BK495.out 2));try go_wp2_with (first|((with_reducible refine gate_dst (N:=1) rfl ?_);refine box_event ?hg (N:=1) ?hd (cs:=#[.slice A0_0 l0_0.length c0_0,.int .i64 a0_1,.int .i64 a0_2]) (t:=31) ?hr ?_;(case hd=>rfl);(case hg=>rfl);(case hr=>first|(go_simp;done)|(go_simp;rfl));intro gb495 hg w5 hbox hb;have n0_:=Aside0.mk (yP (by repeat (first|(with_reducible first|exact HB.out|apply yA|apply yB|apply yC)|exact HB.out)) hb);have n1_:=Aside0.mk (hbox);have n2_:=Aside0.mk ((by rw [hg];exact (yQ (by repeat (first|(with_reducible first|exact HB.out|apply yA|apply yB|apply yC)|exact HB.out))):w.heap.size≤gb495));have n3_:=Aside0.mk ((by rw [hg];exact (yQ (by repeat (first|(with_reducible first|exact HB.out|apply yA|apply yB|apply yC)|exact HB.out))):w.heap.size≤gb495));clear HB;have HB:=n0_;have BK495:=n1_;have GW495:=n2_;have GE495:=n3_;clear n0_ n1_ n2_ n3_;clear hb hbox hg)|((with_reducible refine gate_dst (N:=7) rfl ?_);refine Kd.R_lit (Kd.int .i64) _ 3 ?hg (N:=7) ?hd (xs:=([]:List Int)) (inner:=[]) (ok:=fun _=>True) (okp:=fun _=>True) ?hr ?hp (fun _ hk=>hk) trivial (Below.refl _ _) (Nat.le_refl _) (by simp) ?_;(case hd=>rfl);(case hg=>rfl);(case hr=>first|(go_simp;done)|(go_simp;rfl));(case hp=>exact (Reps.none _ _));intro v497 w6 ho7 hb hg_ hnew_;clear hg_ hnew_;(first|rw [← Ny496.out] at ho7|(simp only [Int.reduceToNat] at ho7;rw [← Ny496.out] at ho7));have n0_:=Aside0.mk (Kd.R_lower ho7 (yQ (by repeat (first|(with_reducible first|exact HB.out|apply yA|apply yB|apply yC|refine yD ?_ GE495.out)|exact HB.out))));have n1_:=Aside0.mk (blk_below (g:=gb495) (o:=.cells #[.slice A0_0 l0_0.length c0_0,.int .i64 a0_1,.int .i64 a0_2] 31 (0,0)) (by (with_reducible repeat (first|refine yE ?_ _|refine yF ?_|refine yG ?_ _));exact BK495.out) hb);have n2_:=Aside0.mk (yP (by repeat (first|(with_reducible first|exact HB.out|apply yA|apply yB|apply yC|refine yD ?_ GE495.out)|exact HB.out)) hb);clear BK495;clear HB;have HO498:=n0_;have BK495:=n1_;have HB:=n2_;clear n0_ n1_ n2_;clear hb ho7;have hcz8_0:w6.cell? ⟨gb495,0,none⟩=some (.slice A0_0 l0_0.length c0_0):=(blk_cell BK495.out 0).trans rfl;have hcz8_1:w6.cell? ⟨gb495,1,none⟩=some (.int .i64 a0_1):=(blk_cell BK495.out 1).trans rfl;have hcz8_2:w6.cell? ⟨gb495,2,none⟩=some (.int .i64 a0_2):=(blk_cell BK495.out 2).trans rfl;have hfz8_0:=blk_frozen BK495.out 0;have hfz8_1:=blk_frozen BK495.out 1;have hfz8_2:=blk_frozen BK495.out 2)|((with_reducible refine gate_dst (N:=12) rfl ?_);refine Kd.R_make (Kd.int .i64) _ 3 rfl (N:=12) rfl 29 _ _ rfl ji2 rfl rfl Try.underlying29 (.int .i64 0) 8 info3 rfl (by decide) (by omega) 0 (ok:=fun _=>True) (okp:=fun _=>True) rfl (fun _ hk=>hk) trivial (of_decide_eq_true (by first|(with_reducible assumption)|assumption)) (Nat.le_trans (Nat.mul_le_mul_right _ (of_decide_eq_true (by first|(with_reducible assumption)|assumption):ji2.toNat≤35184372088832)) (by omega)) (Below.refl _ _) (Nat.le_refl _) ?_;intro v500 w9 ho10 hb hg_ hnew_;clear hg_ hnew_;(first|rw [← Ny499.out] at ho10|(simp only [Int.reduceToNat] at ho10;rw [← Ny499.out] at ho10));have n0_:=Aside0.mk (Kd.R_elder' (by (with_reducible repeat (first|apply yH|apply yI|apply yJ));exact HO498.out) (Kd.R_base ho10) hb);have n1_:=Aside0.mk (Kd.R_lower (Kd.R_new' ho10 (Kd.R_lt (by (with_reducible repeat (first|apply yH|apply yI|apply yJ));exact HO498.out))) (yQ (by repeat (first|(with_reducible first|exact HB.out|apply yA|apply yB|apply yC|refine yD ?_ GE495.out)|exact HB.out))));have n2_:=Aside0.mk (blk_below (g:=gb495) (o:=.cells #[.slice A0_0 l0_0.length c0_0,.int .i64 a0_1,.int .i64 a0_2] 31 (0,0)) (by (with_reducible repeat (first|refine yE ?_ _|refine yF ?_|refine yG ?_ _));exact BK495.out) hb);have n3_:=Aside0.mk (yP (by repeat (first|(with_reducible first|exact HB.out|apply yA|apply yB|apply yC|refine yD ?_ GE495.out)|exact HB.out)) hb);clear HO498;clear BK495;clear HB;have HO498:=n0_;have HO501:=n1_;have BK495:=n2_;have HB:=n3_;clear n0_ n1_ n2_ n3_;clear hb ho10;have hcz11_0:w9.cell? ⟨gb495,0,none⟩=some (.slice A0_0 l0_0.length c0_0):=(blk_cell BK495.out 0).trans rfl;have hcz11_1:w9.cell? ⟨gb495,1,none⟩=some (.int .i64 a0_1):=(blk_cell BK495.out 1).trans rfl;have hcz11_2:w9.cell? ⟨gb495,2,none⟩=some (.int .i64 a0_2):=(blk_cell BK495.out 2).trans rfl;have hfz11_0:=blk_frozen BK495.out 0;have hfz11_1:=blk_frozen BK495.out 1;have hfz11_2:=blk_frozen BK495.out 2)))
   go_loopg [4,6] k (fun kq v4 v6 w'=>∃ (x4_1:List Int) (x5_1:List Int) (x6_1:Int),v6=.int .i64 x6_1∧Aside0 (spec_l6mShape.l0 kq x4_1 x5_1 x6_1 l0_0 a0_1 a0_2=some (r1,r2))∧Aside0 (kq≤k)∧Aside0 (Kd.R (Kd.int .i64) 3 w' w.heap.size (fun k_=>some k_≠(v500:Value).ownBlock) v4 x4_1)∧Aside0 (Kd.R (Kd.int .i64) 3 w' w.heap.size (fun k_=>some k_≠(v4:Value).ownBlock) v500 x5_1)∧Aside0 (w'.heap[gb495]?=some (.cells #[(.slice A0_0 l0_0.length c0_0),.int .i64 a0_1,.int .i64 a0_2] 31 (0,0)))∧Aside0 (Below w.heap.size w w'))
   case atStart=>exact ⟨(y496),(y499),(a0_1),(by first|rfl|(simp;done)|(simp [*];done)|(simp [Int.tmod_eq_emod_of_nonneg];done)),H',⟨Nat.le_refl _⟩,⟨by (with_reducible repeat (first|apply yH|apply yI|apply yJ));exact Kd.R_mono HO498.out (fun _ hk=>hk.2)⟩,⟨by (with_reducible repeat (first|apply yH|apply yI|apply yJ));exact Kd.R_mono HO501.out (fun _ hk=>hk.2)⟩,⟨by (with_reducible repeat (first|refine yE ?_ _|refine yF ?_|refine yG ?_ _));exact BK495.out⟩,⟨by repeat (first|(with_reducible first|exact HB.out|apply yA|apply yB|apply yC|refine yD ?_ GE495.out)|exact HB.out)⟩⟩
   case round =>
    clear H'
    try clear p2
    try clear c3
    try clear c3b0
    try clear c3b1
    try clear c4
    try clear c4b0
    try clear c4b1
    try clear c6
    try clear p6
    try clear hcz11_0
    try clear hcz11_1
    try clear hcz11_2
    try clear hcz8_0
    try clear hcz8_1
    try clear hcz8_2
    try clear hfz11_0
    try clear hfz11_1
    try clear hfz11_2
    try clear hfz8_0
    try clear hfz8_1
    try clear hfz8_2
    obtain ⟨x4_1,x5_1,x6_1,rfl,HA,HK1,HO_4,HO_5,BK495,HB⟩:=hrel
    cases gk with
    | zero=>exact absurd HA.out (by simp [spec_l6mShape.l0])
    | succ k1 =>
     have H:=HA.out
     clear HA
     simp only [spec_l6mShape.l0] at H
     by_cases c12:0≤x6_1
     ·rw [if_pos c12] at H
      have c12b0:decide (0≤x6_1)=true:=decide_eq_true c12
      clear c12
      by_cases c13:x6_1<(x5_1.length:Int)
      ·rw [if_pos c13] at H
       have c13b0:decide (x6_1<(x5_1.length:Int))=true:=decide_eq_true c13
       clear c13
       by_cases c14:(rd x5_1 x6_1)=0
       ·rw [if_pos c14] at H
        have c14b0:((rd x5_1 x6_1) == 0)=true:=beq_iff_eq.mpr c14
        have c14b1:((rd x5_1 x6_1) != 0)=false:=bne_eq_false_iff_eq.mpr c14
        clear c14
        by_cases c15:x4_1.length<17592186044416
        ·rw [if_pos c15] at H
         have LMc15:=Aside0.mk c15
         clear c15
         obtain ⟨y503,hy503⟩:∃ y_:List Int,y_=(x4_1++[x6_1]):=⟨_,rfl⟩
         replace H:((spec_l6mStep.f k1 l0_0 a0_1 a0_2 x6_1).bind fun t507=>(spec_l6mShape.l0 k1 y503 (x5_1.set (x6_1:Int).toNat (y503.length:Int)) t507 l0_0 a0_1 a0_2))=some (r1,r2):=by first|(rw [hy503];with_reducible exact H)|(have H2_:=(Option.bind_some _ _).symm.trans H;rw [hy503];with_reducible exact H2_)|(have H2_:=(Option.bind_some _ _).symm.trans H;with_reducible exact H2_)|with_reducible exact H|(rw [hy503];exact H)|exact H
         have Ny503:=Aside0.mk hy503
         clear hy503
         obtain ⟨y506,hy506⟩:∃ y_:List Int,y_=(x5_1.set (x6_1:Int).toNat (y503.length:Int)):=⟨_,rfl⟩
         replace H:((spec_l6mStep.f k1 l0_0 a0_1 a0_2 x6_1).bind fun t507=>(spec_l6mShape.l0 k1 y503 y506 t507 l0_0 a0_1 a0_2))=some (r1,r2):=by first|(rw [hy506];with_reducible exact H)|(have H2_:=(Option.bind_some _ _).symm.trans H;rw [hy506];with_reducible exact H2_)|(have H2_:=(Option.bind_some _ _).symm.trans H;with_reducible exact H2_)|with_reducible exact H|(rw [hy506];exact H)|exact H
         have Ny506:=Aside0.mk hy506
         clear hy506
         replace H:=Option.bind_eq_some_iff.mp H
         obtain ⟨t507,A170,H⟩:=H
         replace H:(spec_l6mShape.l0 k1 y503 y506 t507 l0_0 a0_1 a0_2)=some (r1,r2):=H
         have A17:=Aside0.mk A170
         clear A170
         have H':=Aside0.mk H
         clear H
         obtain ⟨Ao18,co18,eo18⟩:=Kd.R_slice HO_5.out
         subst eo18
         have p502:0≤(x6_1:Int):=of_decide_eq_true (by first|(with_reducible assumption)|assumption)
         have q502:x6_1<(x5_1.length:Int):=of_decide_eq_true (by first|(with_reducible assumption)|assumption)
         obtain ⟨ad502,e502,hx502_0⟩:=Kd.at_int (Kd.R_reads' HO_5.out).2.2 x6_1 p502 q502
         cases e502
         replace p502:=eq_true p502
         replace q502:=eq_true q502
         go_wp2_with (first|((with_reducible refine gate_builtin (b:=.append) (xs:=#[.tmp 20,.tmp 22]) rfl ?_);at_builtin;refine Kd.R_append (Kd.int .i64) (w0:=w) w.heap.size rfl (.tmp 20) (.tmp 22) 29 3 (.int .i64 0) 8 rfl Try.underlying29 info3 rfl (by decide) (by omega) u4 x4_1 x6_1 [.int .i64 x6_1] (fun k_=>some k_≠(.slice (some ad502) x5_1.length co18:Value).ownBlock) (fun _=>False) rfl rfl ?aP (fun _ hk=>hk.elim) ?aF ?aO ?aB ?aS ?aL ?_;(case aP=>exact rfl);(case aB=>exact (by repeat (first|(with_reducible first|exact HB.out|apply yA|apply yB|apply yC|refine yD ?_ GE495.out)|exact HB.out)));(case aF=>exact (fun k_ hk=>Kd.fresh' (Kd.R_lt (by (with_reducible repeat (first|apply yH|apply yI|apply yJ));exact HO_5.out)) k_ hk));(case aO=>exact (by (with_reducible repeat (first|apply yH|apply yI|apply yJ));exact HO_4.out));(case aS=>exact (yQ (by repeat (first|(with_reducible first|exact HB.out|apply yA|apply yB|apply yC|refine yD ?_ GE495.out)|exact HB.out))));(case aL=>have:=LMc15.out;omega);intro v504 w19 ho hb hg hat;rw [← Ny503.out] at ho;have n0_:=Aside0.mk (Kd.R_after (ok:=(fun _=>True)) (by (with_reducible repeat (first|apply yH|apply yI|apply yJ));exact Kd.R_mono HO_5.out (fun _ hk=>⟨trivial,hk⟩)) hg hat);have n1_:=Aside0.mk (blk_grown (g:=gb495) (o:=.cells #[.slice A0_0 l0_0.length c0_0,.int .i64 a0_1,.int .i64 a0_2] 31 (0,0)) (by (with_reducible repeat (first|refine yE ?_ _|refine yF ?_|refine yG ?_ _));exact BK495.out) hg (Kd.R_ne HO_4.out BK495.out (by decide)));have n2_:=Aside0.mk (hb);have n3_:=Aside0.mk (ho);clear HO_5;clear BK495;clear HB;clear HO_4;have HO_5:=n0_;have BK495:=n1_;have HB:=n2_;have HO505:=n3_;clear n0_ n1_ n2_ n3_;clear ho hb hg hat;obtain ⟨Ao20,co20,eo20⟩:=Kd.R_slice HO505.out;subst eo20;have p16:0≤(x6_1:Int):=of_decide_eq_true (by first|(with_reducible assumption)|assumption);have q16:(x6_1:Int)<((x5_1.length:Int):Int):=of_decide_eq_true (by first|(with_reducible assumption)|assumption);obtain ⟨go16,co16,eo16,gb16,gl16,cl16,HG16⟩:=Kd.R_form HO_5.out (by omega);(first|cases eo16|(injection eo16 with ea_ en_ ec_;(first|subst ea_|(injection ea_ with ea_;subst ea_));subst ec_;clear en_));have GB16:=Aside0.mk gb16;have GG16:=Aside0.mk HG16;clear gb16 gl16 HG16;(first|simp only [add_plain] at hx502_0|skip);obtain ⟨hx16_0,hf16_0⟩:=Kd.R_celln 0 HO_5.out (x6_1:Int) p16 q16;replace p16:=eq_true p16;replace q16:=eq_true q16;have n_:=Aside0.mk (Kd.R_mono (ok':=(fun k_=>some k_≠(.slice Ao20 y503.length co20:Value).ownBlock)) HO_5.out (fun k_ hk=>hk.2));clear HO_5;have HO_5:=n_;clear n_;obtain ⟨hy21_,hz21_⟩:=Kd.R_celln 0 HO_5.out (x6_1:Int) (of_decide_eq_true (by first|(with_reducible assumption)|assumption)) (of_decide_eq_true (by first|(with_reducible assumption)|assumption));have HP21:=Kd.R_putg HO_5.out (x6_1:Int) (y503.length:Int))|((with_reducible refine gate_store (t:=3) (p:=28) rfl ?_);(try (rw [drewN_self w19];generalize hq_:World.drewN w19 _=w19;have n0_:=Aside0.mk (Kd.R_at hq_ HO_5.out);have n1_:=Aside0.mk (Kd.R_at hq_ HO505.out);have n2_:=Aside0.mk (blk_at hq_ BK495.out);have n3_:=Aside0.mk (below_at hq_ HB.out);clear hq_ HO_5 HO505 BK495 HB;have HO_5:=n0_;have HO505:=n1_;have BK495:=n2_;have HB:=n3_;clear n0_ n1_ n2_ n3_;(try (have n_:=Aside0.mk (Kd.R_mono (ok':=(fun k_=>some k_≠(.slice Ao20 y503.length co20:Value).ownBlock)) HO_5.out (fun k_ hk=>hk.2));clear HO_5;have HO_5:=n_;clear n_));(try (obtain ⟨hy21_,hz21_⟩:=Kd.R_celln 0 HO_5.out (x6_1:Int) (of_decide_eq_true (by first|(with_reducible assumption)|assumption)) (of_decide_eq_true (by first|(with_reducible assumption)|assumption))));(try (have HP21:=Kd.R_putg HO_5.out (x6_1:Int) (y503.length:Int)))));refine store_event (t:=3) (p:=28) (v:=?vo_w22) (w1:=(w19.setCell ⟨go16,(x6_1:Int).toNat,none⟩ (.int .i64 (y503.length:Int)))) ?hg ?ho ?hn ?hr ?_;(case ho=>rfl);(case hg=>rfl);(case hn=>rfl);(case hr=>first|(go_simp;done)|(go_simp;rfl));intro w22 hw;have hg:w19.grownBy w22 (some go16):=(by rw [hw];exact HP21.2);have hp_:Kd.R (Kd.int .i64) 3 w22 w.heap.size (fun k_=>some k_≠(.slice Ao20 y503.length co20:Value).ownBlock) (.slice (some ⟨go16,0,none⟩) x5_1.length co18) y506:=(by rw [hw,Ny506.out];exact HP21.1);clear HP21;have n0_:=Aside0.mk (hp_);have n1_:=Aside0.mk (blk_grown (g:=gb495) (o:=.cells #[.slice A0_0 l0_0.length c0_0,.int .i64 a0_1,.int .i64 a0_2] 31 (0,0)) (by (with_reducible repeat (first|refine yE ?_ _|refine yF ?_|refine yG ?_ _));exact BK495.out) hg (Kd.R_ne HO_5.out BK495.out (by decide)));have n2_:=Aside0.mk (Kd.R_after (v:=(.slice (some ⟨go16,0,none⟩) x5_1.length co18)) (v1:=(.slice (some ⟨go16,0,none⟩) x5_1.length co18)) (ok:=(fun _=>True)) (by (with_reducible repeat (first|apply yH|apply yI|apply yJ));exact Kd.R_mono HO505.out (fun _ hk=>⟨trivial,hk⟩)) hg (.inl rfl));have n3_:=Aside0.mk ((by rw [hw];exact yD (HB.out) GB16.out:Below w.heap.size w w22));clear HO_5;clear BK495;clear HO505;clear HB;have HO_5:=n0_;have BK495:=n1_;have HO505:=n2_;have HB:=n3_;clear n0_ n1_ n2_ n3_;clear hg hw hp_;have hcz23_0:w22.cell? ⟨gb495,0,none⟩=some (.slice A0_0 l0_0.length c0_0):=(blk_cell BK495.out 0).trans rfl;have hcz23_1:w22.cell? ⟨gb495,1,none⟩=some (.int .i64 a0_1):=(blk_cell BK495.out 1).trans rfl;have hcz23_2:w22.cell? ⟨gb495,2,none⟩=some (.int .i64 a0_2):=(blk_cell BK495.out 2).trans rfl;have hfz23_0:=blk_frozen BK495.out 0;have hfz23_1:=blk_frozen BK495.out 1;have hfz23_2:=blk_frozen BK495.out 2)|(go_at_call 81;(with_reducible refine (spec_l6mStep.calls k1 _ _ l0_0 a0_1 a0_2 x6_1 t507 _ ?side1 ?side2 A17.out).mono ?_);(case side1=>repeat (first|exact (Kd.C_below HR0_0.out HB.out)|(with_reducible refine Kd.C_alloc ?_ _)|(with_reducible refine Kd.C_drewN ?_ _)|(with_reducible refine Kd.C_drew ?_)));(case side2=>exact HC0_0.out);rintro e w24 ⟨rfl,hb⟩;have n0_:=Aside0.mk (Kd.R_below (by (with_reducible repeat (first|apply yH|apply yI|apply yJ));exact HO_5.out) hb);have n1_:=Aside0.mk (Kd.R_below (by (with_reducible repeat (first|apply yH|apply yI|apply yJ));exact HO505.out) hb);have n2_:=Aside0.mk (blk_below (g:=gb495) (o:=.cells #[.slice A0_0 l0_0.length c0_0,.int .i64 a0_1,.int .i64 a0_2] 31 (0,0)) (by (with_reducible repeat (first|refine yE ?_ _|refine yF ?_|refine yG ?_ _));exact BK495.out) hb);have n3_:=Aside0.mk (yP (by repeat (first|(with_reducible first|exact HB.out|apply yA|apply yB|apply yC|refine yD ?_ GE495.out)|exact HB.out)) hb);clear HO_5;clear HO505;clear BK495;clear HB;have HO_5:=n0_;have HO505:=n1_;have BK495:=n2_;have HB:=n3_;clear n0_ n1_ n2_ n3_;(try clear hb);(try clear hb2);(try clear hk);(try clear hi)))
         repeat (go_quiet (first|((with_reducible refine gate_builtin (b:=.append) (xs:=#[.tmp 20,.tmp 22]) rfl ?_);at_builtin;refine Kd.R_append (Kd.int .i64) (w0:=w) w.heap.size rfl (.tmp 20) (.tmp 22) 29 3 (.int .i64 0) 8 rfl Try.underlying29 info3 rfl (by decide) (by omega) u4 x4_1 x6_1 [.int .i64 x6_1] (fun k_=>some k_≠(.slice (some ad502) x5_1.length co18:Value).ownBlock) (fun _=>False) rfl rfl ?aP (fun _ hk=>hk.elim) ?aF ?aO ?aB ?aS ?aL ?_;(case aP=>exact rfl);(case aB=>exact (by repeat (first|(with_reducible first|exact HB.out|apply yA|apply yB|apply yC|refine yD ?_ GE495.out)|exact HB.out)));(case aF=>exact (fun k_ hk=>Kd.fresh' (Kd.R_lt (by (with_reducible repeat (first|apply yH|apply yI|apply yJ));exact HO_5.out)) k_ hk));(case aO=>exact (by (with_reducible repeat (first|apply yH|apply yI|apply yJ));exact HO_4.out));(case aS=>exact (yQ (by repeat (first|(with_reducible first|exact HB.out|apply yA|apply yB|apply yC|refine yD ?_ GE495.out)|exact HB.out))));(case aL=>have:=LMc15.out;omega);intro v504 w19 ho hb hg hat;rw [← Ny503.out] at ho;have n0_:=Aside0.mk (Kd.R_after (ok:=(fun _=>True)) (by (with_reducible repeat (first|apply yH|apply yI|apply yJ));exact Kd.R_mono HO_5.out (fun _ hk=>⟨trivial,hk⟩)) hg hat);have n1_:=Aside0.mk (blk_grown (g:=gb495) (o:=.cells #[.slice A0_0 l0_0.length c0_0,.int .i64 a0_1,.int .i64 a0_2] 31 (0,0)) (by (with_reducible repeat (first|refine yE ?_ _|refine yF ?_|refine yG ?_ _));exact BK495.out) hg (Kd.R_ne HO_4.out BK495.out (by decide)));have n2_:=Aside0.mk (hb);have n3_:=Aside0.mk (ho);clear HO_5;clear BK495;clear HB;clear HO_4;have HO_5:=n0_;have BK495:=n1_;have HB:=n2_;have HO505:=n3_;clear n0_ n1_ n2_ n3_;clear ho hb hg hat;obtain ⟨Ao20,co20,eo20⟩:=Kd.R_slice HO505.out;subst eo20;have p16:0≤(x6_1:Int):=of_decide_eq_true (by first|(with_reducible assumption)|assumption);have q16:(x6_1:Int)<((x5_1.length:Int):Int):=of_decide_eq_true (by first|(with_reducible assumption)|assumption);obtain ⟨go16,co16,eo16,gb16,gl16,cl16,HG16⟩:=Kd.R_form HO_5.out (by omega);(first|cases eo16|(injection eo16 with ea_ en_ ec_;(first|subst ea_|(injection ea_ with ea_;subst ea_));subst ec_;clear en_));have GB16:=Aside0.mk gb16;have GG16:=Aside0.mk HG16;clear gb16 gl16 HG16;(first|simp only [add_plain] at hx502_0|skip);obtain ⟨hx16_0,hf16_0⟩:=Kd.R_celln 0 HO_5.out (x6_1:Int) p16 q16;replace p16:=eq_true p16;replace q16:=eq_true q16;have n_:=Aside0.mk (Kd.R_mono (ok':=(fun k_=>some k_≠(.slice Ao20 y503.length co20:Value).ownBlock)) HO_5.out (fun k_ hk=>hk.2));clear HO_5;have HO_5:=n_;clear n_;obtain ⟨hy21_,hz21_⟩:=Kd.R_celln 0 HO_5.out (x6_1:Int) (of_decide_eq_true (by first|(with_reducible assumption)|assumption)) (of_decide_eq_true (by first|(with_reducible assumption)|assumption));have HP21:=Kd.R_putg HO_5.out (x6_1:Int) (y503.length:Int))|((with_reducible refine gate_store (t:=3) (p:=28) rfl ?_);(try (rw [drewN_self w19];generalize hq_:World.drewN w19 _=w19;have n0_:=Aside0.mk (Kd.R_at hq_ HO_5.out);have n1_:=Aside0.mk (Kd.R_at hq_ HO505.out);have n2_:=Aside0.mk (blk_at hq_ BK495.out);have n3_:=Aside0.mk (below_at hq_ HB.out);clear hq_ HO_5 HO505 BK495 HB;have HO_5:=n0_;have HO505:=n1_;have BK495:=n2_;have HB:=n3_;clear n0_ n1_ n2_ n3_;(try (have n_:=Aside0.mk (Kd.R_mono (ok':=(fun k_=>some k_≠(.slice Ao20 y503.length co20:Value).ownBlock)) HO_5.out (fun k_ hk=>hk.2));clear HO_5;have HO_5:=n_;clear n_));(try (obtain ⟨hy21_,hz21_⟩:=Kd.R_celln 0 HO_5.out (x6_1:Int) (of_decide_eq_true (by first|(with_reducible assumption)|assumption)) (of_decide_eq_true (by first|(with_reducible assumption)|assumption))));(try (have HP21:=Kd.R_putg HO_5.out (x6_1:Int) (y503.length:Int)))));refine store_event (t:=3) (p:=28) (v:=?vo_w22) (w1:=(w19.setCell ⟨go16,(x6_1:Int).toNat,none⟩ (.int .i64 (y503.length:Int)))) ?hg ?ho ?hn ?hr ?_;(case ho=>rfl);(case hg=>rfl);(case hn=>rfl);(case hr=>first|(go_simp;done)|(go_simp;rfl));intro w22 hw;have hg:w19.grownBy w22 (some go16):=(by rw [hw];exact HP21.2);have hp_:Kd.R (Kd.int .i64) 3 w22 w.heap.size (fun k_=>some k_≠(.slice Ao20 y503.length co20:Value).ownBlock) (.slice (some ⟨go16,0,none⟩) x5_1.length co18) y506:=(by rw [hw,Ny506.out];exact HP21.1);clear HP21;have n0_:=Aside0.mk (hp_);have n1_:=Aside0.mk (blk_grown (g:=gb495) (o:=.cells #[.slice A0_0 l0_0.length c0_0,.int .i64 a0_1,.int .i64 a0_2] 31 (0,0)) (by (with_reducible repeat (first|refine yE ?_ _|refine yF ?_|refine yG ?_ _));exact BK495.out) hg (Kd.R_ne HO_5.out BK495.out (by decide)));have n2_:=Aside0.mk (Kd.R_after (v:=(.slice (some ⟨go16,0,none⟩) x5_1.length co18)) (v1:=(.slice (some ⟨go16,0,none⟩) x5_1.length co18)) (ok:=(fun _=>True)) (by (with_reducible repeat (first|apply yH|apply yI|apply yJ));exact Kd.R_mono HO505.out (fun _ hk=>⟨trivial,hk⟩)) hg (.inl rfl));have n3_:=Aside0.mk ((by rw [hw];exact yD (HB.out) GB16.out:Below w.heap.size w w22));clear HO_5;clear BK495;clear HO505;clear HB;have HO_5:=n0_;have BK495:=n1_;have HO505:=n2_;have HB:=n3_;clear n0_ n1_ n2_ n3_;clear hg hw hp_;have hcz23_0:w22.cell? ⟨gb495,0,none⟩=some (.slice A0_0 l0_0.length c0_0):=(blk_cell BK495.out 0).trans rfl;have hcz23_1:w22.cell? ⟨gb495,1,none⟩=some (.int .i64 a0_1):=(blk_cell BK495.out 1).trans rfl;have hcz23_2:w22.cell? ⟨gb495,2,none⟩=some (.int .i64 a0_2):=(blk_cell BK495.out 2).trans rfl;have hfz23_0:=blk_frozen BK495.out 0;have hfz23_1:=blk_frozen BK495.out 1;have hfz23_2:=blk_frozen BK495.out 2)|(go_at_call 81;(with_reducible refine (spec_l6mStep.calls k1 _ _ l0_0 a0_1 a0_2 x6_1 t507 _ ?side1 ?side2 A17.out).mono ?_);(case side1=>repeat (first|exact (Kd.C_below HR0_0.out HB.out)|(with_reducible refine Kd.C_alloc ?_ _)|(with_reducible refine Kd.C_drewN ?_ _)|(with_reducible refine Kd.C_drew ?_)));(case side2=>exact HC0_0.out);rintro e w24 ⟨rfl,hb⟩;have n0_:=Aside0.mk (Kd.R_below (by (with_reducible repeat (first|apply yH|apply yI|apply yJ));exact HO_5.out) hb);have n1_:=Aside0.mk (Kd.R_below (by (with_reducible repeat (first|apply yH|apply yI|apply yJ));exact HO505.out) hb);have n2_:=Aside0.mk (blk_below (g:=gb495) (o:=.cells #[.slice A0_0 l0_0.length c0_0,.int .i64 a0_1,.int .i64 a0_2] 31 (0,0)) (by (with_reducible repeat (first|refine yE ?_ _|refine yF ?_|refine yG ?_ _));exact BK495.out) hb);have n3_:=Aside0.mk (yP (by repeat (first|(with_reducible first|exact HB.out|apply yA|apply yB|apply yC|refine yD ?_ GE495.out)|exact HB.out)) hb);clear HO_5;clear HO505;clear BK495;clear HB;have HO_5:=n0_;have HO505:=n1_;have BK495:=n2_;have HB:=n3_;clear n0_ n1_ n2_ n3_;(try clear hb);(try clear hb2);(try clear hk);(try clear hi)));try go_wp2_with (first|((with_reducible refine gate_builtin (b:=.append) (xs:=#[.tmp 20,.tmp 22]) rfl ?_);at_builtin;refine Kd.R_append (Kd.int .i64) (w0:=w) w.heap.size rfl (.tmp 20) (.tmp 22) 29 3 (.int .i64 0) 8 rfl Try.underlying29 info3 rfl (by decide) (by omega) u4 x4_1 x6_1 [.int .i64 x6_1] (fun k_=>some k_≠(.slice (some ad502) x5_1.length co18:Value).ownBlock) (fun _=>False) rfl rfl ?aP (fun _ hk=>hk.elim) ?aF ?aO ?aB ?aS ?aL ?_;(case aP=>exact rfl);(case aB=>exact (by repeat (first|(with_reducible first|exact HB.out|apply yA|apply yB|apply yC|refine yD ?_ GE495.out)|exact HB.out)));(case aF=>exact (fun k_ hk=>Kd.fresh' (Kd.R_lt (by (with_reducible repeat (first|apply yH|apply yI|apply yJ));exact HO_5.out)) k_ hk));(case aO=>exact (by (with_reducible repeat (first|apply yH|apply yI|apply yJ));exact HO_4.out));(case aS=>exact (yQ (by repeat (first|(with_reducible first|exact HB.out|apply yA|apply yB|apply yC|refine yD ?_ GE495.out)|exact HB.out))));(case aL=>have:=LMc15.out;omega);intro v504 w19 ho hb hg hat;rw [← Ny503.out] at ho;have n0_:=Aside0.mk (Kd.R_after (ok:=(fun _=>True)) (by (with_reducible repeat (first|apply yH|apply yI|apply yJ));exact Kd.R_mono HO_5.out (fun _ hk=>⟨trivial,hk⟩)) hg hat);have n1_:=Aside0.mk (blk_grown (g:=gb495) (o:=.cells #[.slice A0_0 l0_0.length c0_0,.int .i64 a0_1,.int .i64 a0_2] 31 (0,0)) (by (with_reducible repeat (first|refine yE ?_ _|refine yF ?_|refine yG ?_ _));exact BK495.out) hg (Kd.R_ne HO_4.out BK495.out (by decide)));have n2_:=Aside0.mk (hb);have n3_:=Aside0.mk (ho);clear HO_5;clear BK495;clear HB;clear HO_4;have HO_5:=n0_;have BK495:=n1_;have HB:=n2_;have HO505:=n3_;clear n0_ n1_ n2_ n3_;clear ho hb hg hat;obtain ⟨Ao20,co20,eo20⟩:=Kd.R_slice HO505.out;subst eo20;have p16:0≤(x6_1:Int):=of_decide_eq_true (by first|(with_reducible assumption)|assumption);have q16:(x6_1:Int)<((x5_1.length:Int):Int):=of_decide_eq_true (by first|(with_reducible assumption)|assumption);obtain ⟨go16,co16,eo16,gb16,gl16,cl16,HG16⟩:=Kd.R_form HO_5.out (by omega);(first|cases eo16|(injection eo16 with ea_ en_ ec_;(first|subst ea_|(injection ea_ with ea_;subst ea_));subst ec_;clear en_));have GB16:=Aside0.mk gb16;have GG16:=Aside0.mk HG16;clear gb16 gl16 HG16;(first|simp only [add_plain] at hx502_0|skip);obtain ⟨hx16_0,hf16_0⟩:=Kd.R_celln 0 HO_5.out (x6_1:Int) p16 q16;replace p16:=eq_true p16;replace q16:=eq_true q16;have n_:=Aside0.mk (Kd.R_mono (ok':=(fun k_=>some k_≠(.slice Ao20 y503.length co20:Value).ownBlock)) HO_5.out (fun k_ hk=>hk.2));clear HO_5;have HO_5:=n_;clear n_;obtain ⟨hy21_,hz21_⟩:=Kd.R_celln 0 HO_5.out (x6_1:Int) (of_decide_eq_true (by first|(with_reducible assumption)|assumption)) (of_decide_eq_true (by first|(with_reducible assumption)|assumption));have HP21:=Kd.R_putg HO_5.out (x6_1:Int) (y503.length:Int))|((with_reducible refine gate_store (t:=3) (p:=28) rfl ?_);(try (rw [drewN_self w19];generalize hq_:World.drewN w19 _=w19;have n0_:=Aside0.mk (Kd.R_at hq_ HO_5.out);have n1_:=Aside0.mk (Kd.R_at hq_ HO505.out);have n2_:=Aside0.mk (blk_at hq_ BK495.out);have n3_:=Aside0.mk (below_at hq_ HB.out);clear hq_ HO_5 HO505 BK495 HB;have HO_5:=n0_;have HO505:=n1_;have BK495:=n2_;have HB:=n3_;clear n0_ n1_ n2_ n3_;(try (have n_:=Aside0.mk (Kd.R_mono (ok':=(fun k_=>some k_≠(.slice Ao20 y503.length co20:Value).ownBlock)) HO_5.out (fun k_ hk=>hk.2));clear HO_5;have HO_5:=n_;clear n_));(try (obtain ⟨hy21_,hz21_⟩:=Kd.R_celln 0 HO_5.out (x6_1:Int) (of_decide_eq_true (by first|(with_reducible assumption)|assumption)) (of_decide_eq_true (by first|(with_reducible assumption)|assumption))));(try (have HP21:=Kd.R_putg HO_5.out (x6_1:Int) (y503.length:Int)))));refine store_event (t:=3) (p:=28) (v:=?vo_w22) (w1:=(w19.setCell ⟨go16,(x6_1:Int).toNat,none⟩ (.int .i64 (y503.length:Int)))) ?hg ?ho ?hn ?hr ?_;(case ho=>rfl);(case hg=>rfl);(case hn=>rfl);(case hr=>first|(go_simp;done)|(go_simp;rfl));intro w22 hw;have hg:w19.grownBy w22 (some go16):=(by rw [hw];exact HP21.2);have hp_:Kd.R (Kd.int .i64) 3 w22 w.heap.size (fun k_=>some k_≠(.slice Ao20 y503.length co20:Value).ownBlock) (.slice (some ⟨go16,0,none⟩) x5_1.length co18) y506:=(by rw [hw,Ny506.out];exact HP21.1);clear HP21;have n0_:=Aside0.mk (hp_);have n1_:=Aside0.mk (blk_grown (g:=gb495) (o:=.cells #[.slice A0_0 l0_0.length c0_0,.int .i64 a0_1,.int .i64 a0_2] 31 (0,0)) (by (with_reducible repeat (first|refine yE ?_ _|refine yF ?_|refine yG ?_ _));exact BK495.out) hg (Kd.R_ne HO_5.out BK495.out (by decide)));have n2_:=Aside0.mk (Kd.R_after (v:=(.slice (some ⟨go16,0,none⟩) x5_1.length co18)) (v1:=(.slice (some ⟨go16,0,none⟩) x5_1.length co18)) (ok:=(fun _=>True)) (by (with_reducible repeat (first|apply yH|apply yI|apply yJ));exact Kd.R_mono HO505.out (fun _ hk=>⟨trivial,hk⟩)) hg (.inl rfl));have n3_:=Aside0.mk ((by rw [hw];exact yD (HB.out) GB16.out:Below w.heap.size w w22));clear HO_5;clear BK495;clear HO505;clear HB;have HO_5:=n0_;have BK495:=n1_;have HO505:=n2_;have HB:=n3_;clear n0_ n1_ n2_ n3_;clear hg hw hp_;have hcz23_0:w22.cell? ⟨gb495,0,none⟩=some (.slice A0_0 l0_0.length c0_0):=(blk_cell BK495.out 0).trans rfl;have hcz23_1:w22.cell? ⟨gb495,1,none⟩=some (.int .i64 a0_1):=(blk_cell BK495.out 1).trans rfl;have hcz23_2:w22.cell? ⟨gb495,2,none⟩=some (.int .i64 a0_2):=(blk_cell BK495.out 2).trans rfl;have hfz23_0:=blk_frozen BK495.out 0;have hfz23_1:=blk_frozen BK495.out 1;have hfz23_2:=blk_frozen BK495.out 2)|(go_at_call 81;(with_reducible refine (spec_l6mStep.calls k1 _ _ l0_0 a0_1 a0_2 x6_1 t507 _ ?side1 ?side2 A17.out).mono ?_);(case side1=>repeat (first|exact (Kd.C_below HR0_0.out HB.out)|(with_reducible refine Kd.C_alloc ?_ _)|(with_reducible refine Kd.C_drewN ?_ _)|(with_reducible refine Kd.C_drew ?_)));(case side2=>exact HC0_0.out);rintro e w24 ⟨rfl,hb⟩;have n0_:=Aside0.mk (Kd.R_below (by (with_reducible repeat (first|apply yH|apply yI|apply yJ));exact HO_5.out) hb);have n1_:=Aside0.mk (Kd.R_below (by (with_reducible repeat (first|apply yH|apply yI|apply yJ));exact HO505.out) hb);have n2_:=Aside0.mk (blk_below (g:=gb495) (o:=.cells #[.slice A0_0 l0_0.length c0_0,.int .i64 a0_1,.int .i64 a0_2] 31 (0,0)) (by (with_reducible repeat (first|refine yE ?_ _|refine yF ?_|refine yG ?_ _));exact BK495.out) hb);have n3_:=Aside0.mk (yP (by repeat (first|(with_reducible first|exact HB.out|apply yA|apply yB|apply yC|refine yD ?_ GE495.out)|exact HB.out)) hb);clear HO_5;clear HO505;clear BK495;clear HB;have HO_5:=n0_;have HO505:=n1_;have BK495:=n2_;have HB:=n3_;clear n0_ n1_ n2_ n3_;(try clear hb);(try clear hb2);(try clear hk);(try clear hi))))
         go_roundg k1
         case measure=>have:=HK1.out;omega
         case rel=>exact ⟨(y503),(y506),(t507),(by first|rfl|(simp;done)|(simp [*];done)|(simp [Int.tmod_eq_emod_of_nonneg];done)),H',⟨by have:=HK1.out;omega⟩,⟨by (with_reducible repeat (first|apply yH|apply yI|apply yJ));exact Kd.R_mono HO505.out (fun _ hk=>hk.2)⟩,⟨by (with_reducible repeat (first|apply yH|apply yI|apply yJ));exact HO_5.out⟩,⟨by (with_reducible repeat (first|refine yE ?_ _|refine yF ?_|refine yG ?_ _));exact BK495.out⟩,⟨by repeat (first|(with_reducible first|exact HB.out|apply yA|apply yB|apply yC|refine yD ?_ GE495.out)|exact HB.out)⟩⟩
        ·rw [if_neg c15] at H
         exact absurd H (by simp)
       ·rw [if_neg c14] at H
        have c14b0:((rd x5_1 x6_1) == 0)=false:=beq_eq_false_iff_ne.mpr c14
        have c14b1:((rd x5_1 x6_1) != 0)=true:=bne_iff_ne.mpr c14
        simp only [Option.some.injEq,Prod.mk.injEq] at H
        obtain ⟨rfl,rfl⟩:=H
        obtain ⟨Ao25,co25,eo25⟩:=Kd.R_slice HO_5.out
        subst eo25
        have p502:0≤(x6_1:Int):=of_decide_eq_true (by first|(with_reducible assumption)|assumption)
        have q502:x6_1<(x5_1.length:Int):=of_decide_eq_true (by first|(with_reducible assumption)|assumption)
        obtain ⟨ad502,e502,hx502_0⟩:=Kd.at_int (Kd.R_reads' HO_5.out).2.2 x6_1 p502 q502
        cases e502
        replace p502:=eq_true p502
        replace q502:=eq_true q502
        have p508:0≤(x6_1:Int):=of_decide_eq_true (by first|(with_reducible assumption)|assumption)
        have q508:x6_1<(x5_1.length:Int):=of_decide_eq_true (by first|(with_reducible assumption)|assumption)
        obtain ⟨ad508,e508,hx508_0⟩:=Kd.at_int (Kd.R_reads' HO_5.out).2.2 x6_1 p508 q508
        obtain rfl:ad502=ad508:=(by injection e508)
        replace p508:=eq_true p508
        replace q508:=eq_true q508
        go_wp2
        repeat (go_quiet (fail);try go_wp2)
        go_ret2
        exact ⟨_,by first|rfl|(simp [errW_none,errW_some]<;>rfl)|(simp only [← hji2];first|rfl|(simp [errW_none,errW_some]<;>rfl))|(simp [*,errW_none,errW_some]<;>rfl),by (with_reducible repeat (first|apply yH|apply yI|apply yJ));exact Kd.R_mono HO_4.out (fun _ hk=>trivial),by repeat (first|(with_reducible first|exact HB.out|apply yA|apply yB|apply yC|refine yD ?_ GE495.out)|exact HB.out)⟩
      ·rw [if_neg c13] at H
       exact absurd H (by simp)
     ·rw [if_neg c12] at H
      exact absurd H (by simp)
  ·rw [if_neg c4] at H
   exact absurd H (by simp)
 ·rw [if_neg c3] at H
  exact absurd H (by simp)

end Go.Proofs.Ytneadgionjlicaa.P
