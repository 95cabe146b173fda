/- What these laws reach, joined by a program of this session: contracts (written by that program over the kit's print, or by hand) and plain lemmas. -/
import Derived.Lib.SliceRun
import Derived.Deep.QuietTactic
import Derived.BigQuiet
import Derived.Test.YtneadgionjlicaaK1
import Derived.Test.YtneadgionjlicaaK2
import Derived.Test.YtneadgionjlicaaK3
import Derived.Test.YtneadgionjlicaaK4
import Derived.Test.YtneadgionjlicaaK5
open Go.Proofs.YtneadgionjlicaaW.PrintWords renaming below_alloc → yA, pw_below_drewN → yB, below_drew1 → yC, below_set → yD, blk_drewN → yE, blk_drew → yF, blk_alloc → yG, below_step → yP, below_size → yQ
open Go.Proofs.YtneadgionjlicaaW.PrintWords.Kd renaming R_alloc → yH, R_drewN → yI, R_drew → yJ
open List renaming setIfInBounds_toArray → yK, set_cons_zero → yL, set_cons_succ → yM
namespace Go.Proofs.Ytneadgionjlicaa.P
open Go.RowKit Go.Proofs.YtneadgionjlicaaW.PrintWords Go.Proofs.YtneadgionjlicaaW.PrintLast Go.Proofs.YtneadgionjlicaaW.PrintMore
attribute [local go_sem] max2_int min2_int max_two min_two max_three min_three max_four min_four   -- for this text's walks alone
set_option linter.unusedVariables false
set_option linter.unusedSimpArgs false

/-! ### impl_MachBoth: function 21 -/
mutual
noncomputable def impl_MachBoth.j0:Nat→Int→Bool→List Int→Int→Int→List Int→Int→Int→Option (List Int × Int × Int × Bool)
 | 0,_,_,_,_,_,_,_,_=>none
 | k+1,x6,x30,x579000,x579001,x579002,x580000,x580001,x580002=>if x30=true then (some (([]:List Int),0,0,false)) else ((impl_pairs.f k x579001 x580001 x6).bind fun t583=>((impl_pairs.f k x579002 x580002 x6).bind fun t584=>(impl_MachBoth.l0 k x6 x579000 (x579000.length:Int) 0 x580000 x580001 x580002 ([]:List Int) t583 t584)))
noncomputable def impl_MachBoth.l0:Nat→Int→List Int→Int→Int→List Int→Int→Int→List Int→Int→Int→Option (List Int × Int × Int × Bool)
 | 0,_,_,_,_,_,_,_,_,_,_=>none
 | k+1,x6,x46,x47,x48,x580000,x580001,x580002,x586000,x586001,x586002=>if x48<x47 then (if 0≤x48 then (if x48<(x46.length:Int) then (impl_MachBoth.l1 k x6 (rd x46 x48) x46 x47 x48 x580000 (x580000.length:Int) 0 x580000 x580001 x580002 x586000 x586001 x586002) else (none)) else (none)) else (some (x586000,x586001,x586002,true))
noncomputable def impl_MachBoth.l1:Nat→Int→Int→List Int→Int→Int→List Int→Int→Int→List Int→Int→Int→List Int→Int→Int→Option (List Int × Int × Int × Bool)
 | 0,_,_,_,_,_,_,_,_,_,_,_,_,_,_=>none
 | k+1,x6,x9,x46,x47,x48,x53,x54,x55,x580000,x580001,x580002,x586000,x586001,x586002=>if x55<x54 then (if 0≤x55 then (if x55<(x53.length:Int) then ((impl_pairs.f k x9 (rd x53 x55) x6).bind fun t588=>(if x586000.length<17592186044416 then (impl_MachBoth.l1 k x6 x9 x46 x47 x48 x53 x54 (wrap64 (x55+1)) x580000 x580001 x580002 (x586000++[t588]) x586001 x586002) else (none))) else (none)) else (none)) else (impl_MachBoth.l0 k x6 x46 x47 (wrap64 (x48+1)) x580000 x580001 x580002 x586000 x586001 x586002)
end
noncomputable def impl_MachBoth.f (k:Nat) (l0_0:List Int) (a0_1:Int) (a0_2:Int) (l1_0:List Int) (a1_1:Int) (a1_2:Int):Option (List Int × Int × Int × Bool):=(impl_MachIn.f l0_0 a0_1 a0_2).bind fun t581=>(if t581=true then ((impl_MachIn.f l1_0 a1_1 a1_2).bind fun t582=>(if t582=true then (impl_MachBoth.j0 k (l1_0.length:Int) (decide ((wrap64 ((l0_0.length:Int) * (l1_0.length:Int))) > 5)) l0_0 a0_1 a0_2 l1_0 a1_1 a1_2) else (impl_MachBoth.j0 k (l1_0.length:Int) true l0_0 a0_1 a0_2 l1_0 a1_1 a1_2))) else (impl_MachBoth.j0 k (l1_0.length:Int) true l0_0 a0_1 a0_2 l1_0 a1_1 a1_2))
theorem impl_MachBoth.mono_l:∀ k,(∀ y0 y1 y2 y3 y4 y5 y6 y7,LeO (impl_MachBoth.j0 k y0 y1 y2 y3 y4 y5 y6 y7) (impl_MachBoth.j0 (k+1) y0 y1 y2 y3 y4 y5 y6 y7))∧(∀ y0 y1 y2 y3 y4 y5 y6 y7 y8 y9,LeO (impl_MachBoth.l0 k y0 y1 y2 y3 y4 y5 y6 y7 y8 y9) (impl_MachBoth.l0 (k+1) y0 y1 y2 y3 y4 y5 y6 y7 y8 y9))∧(∀ y0 y1 y2 y3 y4 y5 y6 y7 y8 y9 y10 y11 y12 y13,LeO (impl_MachBoth.l1 k y0 y1 y2 y3 y4 y5 y6 y7 y8 y9 y10 y11 y12 y13) (impl_MachBoth.l1 (k+1) y0 y1 y2 y3 y4 y5 y6 y7 y8 y9 y10 y11 y12 y13))
 | 0=>⟨fun _ _ _ _ _ _ _ _ r h=>by simp [impl_MachBoth.j0] at h,fun _ _ _ _ _ _ _ _ _ _ r h=>by simp [impl_MachBoth.l0] at h,fun _ _ _ _ _ _ _ _ _ _ _ _ _ _ r h=>by simp [impl_MachBoth.l1] at h⟩
 | k+1=>by
  obtain ⟨ih0,ih1,ih2⟩:=impl_MachBoth.mono_l k
  refine ⟨?_,?_,?_⟩
  ·intro y0 y1 y2 y3 y4 y5 y6 y7
   unfold impl_MachBoth.j0
   repeat' first
   | (with_reducible exact ih0 _ _ _ _ _ _ _ _)
   | (with_reducible exact ih1 _ _ _ _ _ _ _ _ _ _)
   | (with_reducible exact ih2 _ _ _ _ _ _ _ _ _ _ _ _ _ _)
   | (with_reducible exact impl_pairs.mono _ _ _ _)
   | (with_reducible exact LeO.refl _)
   | (with_reducible exact LeO.none _)
   | (with_reducible refine LeO.ite ?_ ?_)
   | (with_reducible refine LeO.bind ?_ (fun _=>?_))
   | exact ih0 _ _ _ _ _ _ _ _
   | exact ih1 _ _ _ _ _ _ _ _ _ _
   | exact ih2 _ _ _ _ _ _ _ _ _ _ _ _ _ _
   | exact impl_pairs.mono _ _ _ _
   | exact LeO.none _
   | refine LeO.ite ?_ ?_
   | refine LeO.bind ?_ (fun _=>?_)
  ·intro y0 y1 y2 y3 y4 y5 y6 y7 y8 y9
   unfold impl_MachBoth.l0
   repeat' first
   | (with_reducible exact ih0 _ _ _ _ _ _ _ _)
   | (with_reducible exact ih1 _ _ _ _ _ _ _ _ _ _)
   | (with_reducible exact ih2 _ _ _ _ _ _ _ _ _ _ _ _ _ _)
   | (with_reducible exact impl_pairs.mono _ _ _ _)
   | (with_reducible exact LeO.refl _)
   | (with_reducible exact LeO.none _)
   | (with_reducible refine LeO.ite ?_ ?_)
   | (with_reducible refine LeO.bind ?_ (fun _=>?_))
   | exact ih0 _ _ _ _ _ _ _ _
   | exact ih1 _ _ _ _ _ _ _ _ _ _
   | exact ih2 _ _ _ _ _ _ _ _ _ _ _ _ _ _
   | exact impl_pairs.mono _ _ _ _
   | exact LeO.none _
   | refine LeO.ite ?_ ?_
   | refine LeO.bind ?_ (fun _=>?_)
  ·intro y0 y1 y2 y3 y4 y5 y6 y7 y8 y9 y10 y11 y12 y13
   unfold impl_MachBoth.l1
   repeat' first
   | (with_reducible exact ih0 _ _ _ _ _ _ _ _)
   | (with_reducible exact ih1 _ _ _ _ _ _ _ _ _ _)
   | (with_reducible exact ih2 _ _ _ _ _ _ _ _ _ _ _ _ _ _)
   | (with_reducible exact impl_pairs.mono _ _ _ _)
   | (with_reducible exact LeO.refl _)
   | (with_reducible exact LeO.none _)
   | (with_reducible refine LeO.ite ?_ ?_)
   | (with_reducible refine LeO.bind ?_ (fun _=>?_))
   | exact ih0 _ _ _ _ _ _ _ _
   | exact ih1 _ _ _ _ _ _ _ _ _ _
   | exact ih2 _ _ _ _ _ _ _ _ _ _ _ _ _ _
   | exact impl_pairs.mono _ _ _ _
   | exact LeO.none _
   | refine LeO.ite ?_ ?_
   | refine LeO.bind ?_ (fun _=>?_)
theorem impl_MachBoth.mono:∀ a0 a1 a2 a3 a4 a5 k,LeO (impl_MachBoth.f k a0 a1 a2 a3 a4 a5) (impl_MachBoth.f (k+1) a0 a1 a2 a3 a4 a5):=by
 intro a0 a1 a2 a3 a4 a5 k
 obtain ⟨ih0,ih1,ih2⟩:=impl_MachBoth.mono_l k
 unfold impl_MachBoth.f
 repeat' first
   | (with_reducible exact ih0 _ _ _ _ _ _ _ _)
   | (with_reducible exact ih1 _ _ _ _ _ _ _ _ _ _)
   | (with_reducible exact ih2 _ _ _ _ _ _ _ _ _ _ _ _ _ _)
   | (with_reducible exact impl_pairs.mono _ _ _ _)
   | (with_reducible exact LeO.refl _)
   | (with_reducible exact LeO.none _)
   | (with_reducible refine LeO.ite ?_ ?_)
   | (with_reducible refine LeO.bind ?_ (fun _=>?_))
   | exact ih0 _ _ _ _ _ _ _ _
   | exact ih1 _ _ _ _ _ _ _ _ _ _
   | exact ih2 _ _ _ _ _ _ _ _ _ _ _ _ _ _
   | exact impl_pairs.mono _ _ _ _
   | exact LeO.none _
   | refine LeO.ite ?_ ?_
   | refine LeO.bind ?_ (fun _=>?_)
noncomputable def impl_MachBoth.T4:Bool × List (List Nat × List Nat):=(true,[([],[]),([0],[0]),([],[]),([2],[2]),([],[]),([1,3,4],[1,3,4]),([],[]),([6],[6]),([],[]),([8],[8]),([],[]),([7,9,10,5],[7,9,10]),([5,11],[5,11]),([],[]),([13,12,11,0,1,2,3,4,5,6,7,8,9,10,11,12,13],[12,13])])
noncomputable def impl_MachBoth.B4:List Nat:=[0,1,0,4,0,31,0,64,0,256,0,2047,4095,0,16383]
theorem impl_MachBoth.tab4:rtab .any (opsOf Try.f21 4)=impl_MachBoth.T4:=by kernel_rfl
theorem impl_MachBoth.bits4:waitsOk impl_MachBoth.T4.2 impl_MachBoth.B4=true:=by kernel_rfl
noncomputable def impl_MachBoth.T11:Bool × List (List Nat × List Nat):=(true,[([],[]),([0],[0]),([],[]),([],[]),([],[]),([2,3,4],[2,3,4]),([5],[5]),([1,6,5],[1,6]),([0,1,2,3,4,5,6,7],[]),([8,7,7,0,1,2,3,4,5,6,7],[7,8])])
noncomputable def impl_MachBoth.B11:List Nat:=[0,1,0,0,0,28,60,127,255,511]
theorem impl_MachBoth.tab11:rtab .any (opsOf Try.f21 11)=impl_MachBoth.T11:=by kernel_rfl
theorem impl_MachBoth.bits11:waitsOk impl_MachBoth.T11.2 impl_MachBoth.B11=true:=by kernel_rfl
set_option maxHeartbeats 8000000 in
set_option maxRecDepth 100000 in
theorem impl_MachBoth.calls (k:Nat) (A0_0:Option Addr) (c0_0:Nat) (l0_0:List Int) (a0_1:Int) (a0_2:Int) (A1_0:Option Addr) (c1_0:Nat) (l1_0:List Int) (a1_1:Int) (a1_2:Int) (r1:List Int) (r2:Int) (r3:Int) (r4:Bool) (w:World) (hr0_0:Kd.C (Kd.int .i64) w A0_0 l0_0.length l0_0) (hc0_0:l0_0.length≤c0_0) (hr1_0:Kd.C (Kd.int .i64) w A1_0 l1_0.length l1_0) (hc1_0:l1_0.length≤c1_0) (h:impl_MachBoth.f k l0_0 a0_1 a0_2 l1_0 a1_1 a1_2=some (r1,r2,r3,r4)) :
  Calls Try.prog 21 #[.agg #[.slice A0_0 l0_0.length c0_0,.int .i64 a0_1,.int .i64 a0_2],.agg #[.slice A1_0 l1_0.length c1_0,.int .i64 a1_1,.int .i64 a1_2]] w fun e w'=>∃ v0_:Value,e=.returned (.tuple #[.agg #[v0_,.int .i64 r2,.int .i64 r3],.bool r4])∧Kd.R (Kd.int .i64) 3 w' w.heap.size (fun _=>True) v0_ r1∧Below w.heap.size w w':=by
 have hu31:=Try.underlying31
 have HR0_0:=Aside0.mk hr0_0
 have HC0_0:=Aside0.mk hc0_0
 clear hr0_0 hc0_0
 have HR1_0:=Aside0.mk hr1_0
 have HC1_0:=Aside0.mk hc1_0
 clear hr1_0 hc1_0
 have HB:=Aside0.mk (Below.refl w.heap.size w)
 have H:((impl_MachIn.f l0_0 a0_1 a0_2).bind fun t581=>(if t581=true then ((impl_MachIn.f l1_0 a1_1 a1_2).bind fun t582=>(if t582=true then (impl_MachBoth.j0 k (l1_0.length:Int) (decide ((wrap64 ((l0_0.length:Int) * (l1_0.length:Int))) > 5)) l0_0 a0_1 a0_2 l1_0 a1_1 a1_2) else (impl_MachBoth.j0 k (l1_0.length:Int) true l0_0 a0_1 a0_2 l1_0 a1_1 a1_2))) else (impl_MachBoth.j0 k (l1_0.length:Int) true l0_0 a0_1 a0_2 l1_0 a1_1 a1_2)))=some (r1,r2,r3,r4):=h
 clear h
 have HC3:=Aside0.mk H
 clear H
 go_enter Try.func21,Try.ntmps21
 go_upto_region 2 with (first|((with_reducible refine gate_dst (N:=2) rfl ?_);(try (refine gate_guard (by rfl) ?_;dsimp only));refine box_event ?hg (N:=2) ?hd (cs:=#[.slice A0_0 l0_0.length c0_0,.int .i64 a0_1,.int .i64 a0_2]) (t:=31) ?hr ?_;(case hd=>rfl);(case hg=>rfl);(case hr=>first|(go_simp;done)|(go_simp;rfl));intro gb578 hg w4 hbox hb;have n0_:=Aside0.mk (yP (by repeat (first|(with_reducible first|exact HB.out|apply yA|apply yB|apply yC)|exact HB.out)) hb);have n1_:=Aside0.mk (hbox);have n2_:=Aside0.mk ((by rw [hg];exact (yQ (by repeat (first|(with_reducible first|exact HB.out|apply yA|apply yB|apply yC)|exact HB.out))):w.heap.size≤gb578));have n3_:=Aside0.mk ((by rw [hg];exact (yQ (by repeat (first|(with_reducible first|exact HB.out|apply yA|apply yB|apply yC)|exact HB.out))):w.heap.size≤gb578));clear HB;have HB:=n0_;have BK578:=n1_;have GW578:=n2_;have GE578:=n3_;clear n0_ n1_ n2_ n3_;clear hb hbox hg)|((with_reducible refine gate_dst (N:=3) rfl ?_);(try (refine gate_guard (by rfl) ?_;dsimp only));refine box_event ?hg (N:=3) ?hd (cs:=#[.slice A1_0 l1_0.length c1_0,.int .i64 a1_1,.int .i64 a1_2]) (t:=31) ?hr ?_;(case hd=>rfl);(case hg=>rfl);(case hr=>first|(go_simp;done)|(go_simp;rfl));intro gb579 hg w5 hbox hb;have n0_:=Aside0.mk (blk_below (g:=gb578) (o:=.cells #[.slice A0_0 l0_0.length c0_0,.int .i64 a0_1,.int .i64 a0_2] 31 (0,0)) (by (with_reducible repeat (first|refine yE ?_ _|refine yF ?_|refine yG ?_ _));exact BK578.out) hb);have n1_:=Aside0.mk (yP (by repeat (first|(with_reducible first|exact HB.out|apply yA|apply yB|apply yC|refine yD ?_ GE578.out)|exact HB.out)) hb);have n2_:=Aside0.mk (hbox);have n3_:=Aside0.mk ((by rw [hg];exact (yQ (by repeat (first|(with_reducible first|exact HB.out|apply yA|apply yB|apply yC|refine yD ?_ GE578.out)|exact HB.out))):w.heap.size≤gb579));have n4_:=Aside0.mk ((by rw [hg];exact (yQ (by repeat (first|(with_reducible first|exact HB.out|apply yA|apply yB|apply yC|refine yD ?_ GE578.out)|exact HB.out))):w.heap.size≤gb579));have n5_:=Aside0.mk ((by rw [hg];exact Nat.ne_of_lt (blk_lt (g:=gb578) (o:=.cells #[.slice A0_0 l0_0.length c0_0,.int .i64 a0_1,.int .i64 a0_2] 31 (0,0)) (by (with_reducible repeat (first|refine yE ?_ _|refine yF ?_|refine yG ?_ _));exact BK578.out)):gb578≠gb579));have n6_:=Aside0.mk ((by rw [hg];exact Nat.ne_of_gt (blk_lt (g:=gb578) (o:=.cells #[.slice A0_0 l0_0.length c0_0,.int .i64 a0_1,.int .i64 a0_2] 31 (0,0)) (by (with_reducible repeat (first|refine yE ?_ _|refine yF ?_|refine yG ?_ _));exact BK578.out)):gb579≠gb578));clear BK578;clear HB;have BK578:=n0_;have HB:=n1_;have BK579:=n2_;have GW579:=n3_;have GE579:=n4_;have NB578_579:=n5_;have NB579_578:=n6_;clear n0_ n1_ n2_ n3_ n4_ n5_ n6_;clear hb hbox hg)|((with_reducible refine gate_dst (N:=4) rfl ?_);(try (refine gate_guard (by rfl) ?_;dsimp only));refine box_event ?hg (N:=4) ?hd (cs:=#[.slice none 0 0,.int .i64 0,.int .i64 0]) (t:=31) ?hr ?_;(case hd=>rfl);(case hg=>rfl);(case hr=>first|(go_simp;done)|(go_simp;rfl));intro gb580 hg w6 hbox hb;have n0_:=Aside0.mk (blk_below (g:=gb578) (o:=.cells #[.slice A0_0 l0_0.length c0_0,.int .i64 a0_1,.int .i64 a0_2] 31 (0,0)) (by (with_reducible repeat (first|refine yE ?_ _|refine yF ?_|refine yG ?_ _));exact BK578.out) hb);have n1_:=Aside0.mk (blk_below (g:=gb579) (o:=.cells #[.slice A1_0 l1_0.length c1_0,.int .i64 a1_1,.int .i64 a1_2] 31 (0,0)) (by (with_reducible repeat (first|refine yE ?_ _|refine yF ?_|refine yG ?_ _));exact BK579.out) hb);have n2_:=Aside0.mk (yP (by repeat (first|(with_reducible first|exact HB.out|apply yA|apply yB|apply yC|refine yD ?_ GE578.out|refine yD ?_ GE579.out)|exact HB.out)) hb);have n3_:=Aside0.mk (hbox);have n4_:=Aside0.mk ((by rw [hg];exact (yQ (by repeat (first|(with_reducible first|exact HB.out|apply yA|apply yB|apply yC|refine yD ?_ GE578.out|refine yD ?_ GE579.out)|exact HB.out))):w.heap.size≤gb580));have n5_:=Aside0.mk ((by rw [hg];exact (yQ (by repeat (first|(with_reducible first|exact HB.out|apply yA|apply yB|apply yC|refine yD ?_ GE578.out|refine yD ?_ GE579.out)|exact HB.out))):w.heap.size≤gb580));have n6_:=Aside0.mk ((by rw [hg];exact Nat.ne_of_lt (blk_lt (g:=gb578) (o:=.cells #[.slice A0_0 l0_0.length c0_0,.int .i64 a0_1,.int .i64 a0_2] 31 (0,0)) (by (with_reducible repeat (first|refine yE ?_ _|refine yF ?_|refine yG ?_ _));exact BK578.out)):gb578≠gb580));have n7_:=Aside0.mk ((by rw [hg];exact Nat.ne_of_gt (blk_lt (g:=gb578) (o:=.cells #[.slice A0_0 l0_0.length c0_0,.int .i64 a0_1,.int .i64 a0_2] 31 (0,0)) (by (with_reducible repeat (first|refine yE ?_ _|refine yF ?_|refine yG ?_ _));exact BK578.out)):gb580≠gb578));have n8_:=Aside0.mk ((by rw [hg];exact Nat.ne_of_lt (blk_lt (g:=gb579) (o:=.cells #[.slice A1_0 l1_0.length c1_0,.int .i64 a1_1,.int .i64 a1_2] 31 (0,0)) (by (with_reducible repeat (first|refine yE ?_ _|refine yF ?_|refine yG ?_ _));exact BK579.out)):gb579≠gb580));have n9_:=Aside0.mk ((by rw [hg];exact Nat.ne_of_gt (blk_lt (g:=gb579) (o:=.cells #[.slice A1_0 l1_0.length c1_0,.int .i64 a1_1,.int .i64 a1_2] 31 (0,0)) (by (with_reducible repeat (first|refine yE ?_ _|refine yF ?_|refine yG ?_ _));exact BK579.out)):gb580≠gb579));clear BK578;clear BK579;clear HB;have BK578:=n0_;have BK579:=n1_;have HB:=n2_;have BK580:=n3_;have GW580:=n4_;have GE580:=n5_;have NB578_580:=n6_;have NB580_578:=n7_;have NB579_580:=n8_;have NB580_579:=n9_;clear n0_ n1_ n2_ n3_ n4_ n5_ n6_ n7_ n8_ n9_;clear hb hbox hg;have hnb7:=NB579_578.out;have hnc7:=NB578_579.out;have hnb8:=NB579_580.out;have hnc8:=NB580_579.out;have hcz9_0:w6.cell? ⟨gb579,0,none⟩=some (.slice A1_0 l1_0.length c1_0):=(blk_cell BK579.out 0).trans rfl;have hcz9_1:w6.cell? ⟨gb579,1,none⟩=some (.int .i64 a1_1):=(blk_cell BK579.out 1).trans rfl;have hcz9_2:w6.cell? ⟨gb579,2,none⟩=some (.int .i64 a1_2):=(blk_cell BK579.out 2).trans rfl;have hfz9_0:=blk_frozen BK579.out 0;have hfz9_1:=blk_frozen BK579.out 1;have hfz9_2:=blk_frozen BK579.out 2))
 (try simp only [Act.put,yK,yL,yM])
 go_cut [30] (fun v30 wc=>∃ (kq:Nat) (x30_2:Bool),v30=.bool x30_2∧Aside0 (impl_MachBoth.j0 kq (l1_0.length:Int) x30_2 l0_0 a0_1 a0_2 l1_0 a1_1 a1_2=some (r1,r2,r3,r4))∧Aside0 (kq≤k)∧Aside0 (wc.heap[gb578]?=some (.cells #[(.slice A0_0 l0_0.length c0_0),.int .i64 a0_1,.int .i64 a0_2] 31 (0,0)))∧Aside0 (wc.heap[gb579]?=some (.cells #[(.slice A1_0 l1_0.length c1_0),.int .i64 a1_1,.int .i64 a1_2] 31 (0,0)))∧Aside0 (wc.heap[gb580]?=some (.cells #[(.slice none 0 0),.int .i64 0,.int .i64 0] 31 (0,0)))∧Aside0 (Below w.heap.size w wc))
 case first =>
  have H:=HC3.out
  clear HC3
  replace H:=Option.bind_eq_some_iff.mp H
  obtain ⟨t581,A100,H⟩:=H
  replace H:(if t581=true then ((impl_MachIn.f l1_0 a1_1 a1_2).bind fun t582=>(if t582=true then (impl_MachBoth.j0 k (l1_0.length:Int) (decide ((wrap64 ((l0_0.length:Int) * (l1_0.length:Int))) > 5)) l0_0 a0_1 a0_2 l1_0 a1_1 a1_2) else (impl_MachBoth.j0 k (l1_0.length:Int) true l0_0 a0_1 a0_2 l1_0 a1_1 a1_2))) else (impl_MachBoth.j0 k (l1_0.length:Int) true l0_0 a0_1 a0_2 l1_0 a1_1 a1_2))=some (r1,r2,r3,r4):=H
  have A10:=Aside0.mk A100
  clear A100
  by_cases c11:t581=true
  ·subst c11
   have H1:((impl_MachIn.f l1_0 a1_1 a1_2).bind fun t582=>(if t582=true then (impl_MachBoth.j0 k (l1_0.length:Int) (decide ((wrap64 ((l0_0.length:Int) * (l1_0.length:Int))) > 5)) l0_0 a0_1 a0_2 l1_0 a1_1 a1_2) else (impl_MachBoth.j0 k (l1_0.length:Int) true l0_0 a0_1 a0_2 l1_0 a1_1 a1_2)))=some (r1,r2,r3,r4):=by rw [if_pos rfl] at H;exact H
   clear H
   have H:=H1
   clear H1
   replace H:=Option.bind_eq_some_iff.mp H
   obtain ⟨t582,A120,H⟩:=H
   replace H:(if t582=true then (impl_MachBoth.j0 k (l1_0.length:Int) (decide ((wrap64 ((l0_0.length:Int) * (l1_0.length:Int))) > 5)) l0_0 a0_1 a0_2 l1_0 a1_1 a1_2) else (impl_MachBoth.j0 k (l1_0.length:Int) true l0_0 a0_1 a0_2 l1_0 a1_1 a1_2))=some (r1,r2,r3,r4):=H
   have A12:=Aside0.mk A120
   clear A120
   by_cases c13:t582=true
   ·subst c13
    have H1:(impl_MachBoth.j0 k (l1_0.length:Int) (decide ((wrap64 ((l0_0.length:Int) * (l1_0.length:Int))) > 5)) l0_0 a0_1 a0_2 l1_0 a1_1 a1_2)=some (r1,r2,r3,r4):=by rw [if_pos rfl] at H;exact H
    clear H
    have H:=H1
    clear H1
    have H':=Aside0.mk H
    clear H
    have hnb14:=NB578_579.out
    have hnc14:=NB579_578.out
    have hnb15:=NB578_580.out
    have hnc15:=NB580_578.out
    have hcz16_0:w6.cell? ⟨gb578,0,none⟩=some (.slice A0_0 l0_0.length c0_0):=(blk_cell BK578.out 0).trans rfl
    have hcz16_1:w6.cell? ⟨gb578,1,none⟩=some (.int .i64 a0_1):=(blk_cell BK578.out 1).trans rfl
    have hcz16_2:w6.cell? ⟨gb578,2,none⟩=some (.int .i64 a0_2):=(blk_cell BK578.out 2).trans rfl
    have hfz16_0:=blk_frozen BK578.out 0
    have hfz16_1:=blk_frozen BK578.out 1
    have hfz16_2:=blk_frozen BK578.out 2
    go_wp2_with (first|((with_reducible refine gate_callee (f:=40) rfl ?_);refine goesL_ (some 16) rfl rfl Try.func40 (by kernel_rfl) rfl #[.agg #[.slice A0_0 l0_0.length c0_0,.int .i64 a0_1,.int .i64 a0_2]] rfl (by (try simp only [List.map_toArray,List.map_cons,List.map_nil]);first|done|rfl|(simp only [List.length_drop,List.length_take];rfl)) ?_;(with_reducible refine (impl_MachIn.calls _ _ l0_0 a0_1 a0_2 true _ ?side1 ?side2 A10.out).mono ?_);(case side1=>repeat (first|exact (Kd.C_below HR0_0.out HB.out)|(with_reducible refine Kd.C_alloc ?_ _)|(with_reducible refine Kd.C_drewN ?_ _)|(with_reducible refine Kd.C_drew ?_)));(case side2=>exact HC0_0.out);rintro e w17 ⟨rfl,hb⟩;refine ⟨_,rfl,?_⟩;have n0_:=Aside0.mk (blk_below (g:=gb578) (o:=.cells #[.slice A0_0 l0_0.length c0_0,.int .i64 a0_1,.int .i64 a0_2] 31 (0,0)) (by (with_reducible repeat (first|refine yE ?_ _|refine yF ?_|refine yG ?_ _));exact BK578.out) hb);have n1_:=Aside0.mk (blk_below (g:=gb579) (o:=.cells #[.slice A1_0 l1_0.length c1_0,.int .i64 a1_1,.int .i64 a1_2] 31 (0,0)) (by (with_reducible repeat (first|refine yE ?_ _|refine yF ?_|refine yG ?_ _));exact BK579.out) hb);have n2_:=Aside0.mk (blk_below (g:=gb580) (o:=.cells #[.slice none 0 0,.int .i64 0,.int .i64 0] 31 (0,0)) (by (with_reducible repeat (first|refine yE ?_ _|refine yF ?_|refine yG ?_ _));exact BK580.out) hb);have n3_:=Aside0.mk (yP (by repeat (first|(with_reducible first|exact HB.out|apply yA|apply yB|apply yC|refine yD ?_ GE578.out|refine yD ?_ GE579.out|refine yD ?_ GE580.out)|exact HB.out)) hb);clear BK578;clear BK579;clear BK580;clear HB;have BK578:=n0_;have BK579:=n1_;have BK580:=n2_;have HB:=n3_;clear n0_ n1_ n2_ n3_;(try clear hb);(try clear hb2);(try clear hk);(try clear hi);have hnb18:=NB579_580.out;have hnc18:=NB580_579.out;have hcz19_0:w17.cell? ⟨gb579,0,none⟩=some (.slice A1_0 l1_0.length c1_0):=(blk_cell BK579.out 0).trans rfl;have hcz19_1:w17.cell? ⟨gb579,1,none⟩=some (.int .i64 a1_1):=(blk_cell BK579.out 1).trans rfl;have hcz19_2:w17.cell? ⟨gb579,2,none⟩=some (.int .i64 a1_2):=(blk_cell BK579.out 2).trans rfl;have hfz19_0:=blk_frozen BK579.out 0;have hfz19_1:=blk_frozen BK579.out 1;have hfz19_2:=blk_frozen BK579.out 2)|(go_at_call 40;(with_reducible refine (impl_MachIn.calls _ _ l1_0 a1_1 a1_2 true _ ?side1 ?side2 A12.out).mono ?_);(case side1=>repeat (first|exact (Kd.C_below HR1_0.out HB.out)|(with_reducible refine Kd.C_alloc ?_ _)|(with_reducible refine Kd.C_drewN ?_ _)|(with_reducible refine Kd.C_drew ?_)));(case side2=>exact HC1_0.out);rintro e w20 ⟨rfl,hb⟩;have n0_:=Aside0.mk (blk_below (g:=gb578) (o:=.cells #[.slice A0_0 l0_0.length c0_0,.int .i64 a0_1,.int .i64 a0_2] 31 (0,0)) (by (with_reducible repeat (first|refine yE ?_ _|refine yF ?_|refine yG ?_ _));exact BK578.out) hb);have n1_:=Aside0.mk (blk_below (g:=gb579) (o:=.cells #[.slice A1_0 l1_0.length c1_0,.int .i64 a1_1,.int .i64 a1_2] 31 (0,0)) (by (with_reducible repeat (first|refine yE ?_ _|refine yF ?_|refine yG ?_ _));exact BK579.out) hb);have n2_:=Aside0.mk (blk_below (g:=gb580) (o:=.cells #[.slice none 0 0,.int .i64 0,.int .i64 0] 31 (0,0)) (by (with_reducible repeat (first|refine yE ?_ _|refine yF ?_|refine yG ?_ _));exact BK580.out) hb);have n3_:=Aside0.mk (yP (by repeat (first|(with_reducible first|exact HB.out|apply yA|apply yB|apply yC|refine yD ?_ GE578.out|refine yD ?_ GE579.out|refine yD ?_ GE580.out)|exact HB.out)) hb);clear BK578;clear BK579;clear BK580;clear HB;have BK578:=n0_;have BK579:=n1_;have BK580:=n2_;have HB:=n3_;clear n0_ n1_ n2_ n3_;(try clear hb);(try clear hb2);(try clear hk);(try clear hi);have hcz21_0:w20.cell? ⟨gb578,0,none⟩=some (.slice A0_0 l0_0.length c0_0):=(blk_cell BK578.out 0).trans rfl;have hcz21_1:w20.cell? ⟨gb578,1,none⟩=some (.int .i64 a0_1):=(blk_cell BK578.out 1).trans rfl;have hcz21_2:w20.cell? ⟨gb578,2,none⟩=some (.int .i64 a0_2):=(blk_cell BK578.out 2).trans rfl;have hfz21_0:=blk_frozen BK578.out 0;have hfz21_1:=blk_frozen BK578.out 1;have hfz21_2:=blk_frozen BK578.out 2))
    go_meet
    case rel=>exact ⟨_,(decide ((wrap64 ((l0_0.length:Int) * (l1_0.length:Int))) > 5)),(by first|rfl|(simp;done)|(simp [*];done)|(simp [Int.tmod_eq_emod_of_nonneg];done)),H',⟨by first|omega|exact Nat.le_refl _⟩,⟨by (with_reducible repeat (first|refine yE ?_ _|refine yF ?_|refine yG ?_ _));exact BK578.out⟩,⟨by (with_reducible repeat (first|refine yE ?_ _|refine yF ?_|refine yG ?_ _));exact BK579.out⟩,⟨by (with_reducible repeat (first|refine yE ?_ _|refine yF ?_|refine yG ?_ _));exact BK580.out⟩,⟨by repeat (first|(with_reducible first|exact HB.out|apply yA|apply yB|apply yC|refine yD ?_ GE578.out|refine yD ?_ GE579.out|refine yD ?_ GE580.out)|exact HB.out)⟩⟩
   ·replace c13:=Bool.eq_false_iff.mpr c13
    subst c13
    have H1:(impl_MachBoth.j0 k (l1_0.length:Int) true l0_0 a0_1 a0_2 l1_0 a1_1 a1_2)=some (r1,r2,r3,r4):=by rw [if_neg (show ¬ (false=true) by decide)] at H;exact H
    clear H
    have H:=H1
    clear H1
    have H':=Aside0.mk H
    clear H
    have hnb22:=NB578_579.out
    have hnc22:=NB579_578.out
    have hnb23:=NB578_580.out
    have hnc23:=NB580_578.out
    have hcz24_0:w6.cell? ⟨gb578,0,none⟩=some (.slice A0_0 l0_0.length c0_0):=(blk_cell BK578.out 0).trans rfl
    have hcz24_1:w6.cell? ⟨gb578,1,none⟩=some (.int .i64 a0_1):=(blk_cell BK578.out 1).trans rfl
    have hcz24_2:w6.cell? ⟨gb578,2,none⟩=some (.int .i64 a0_2):=(blk_cell BK578.out 2).trans rfl
    have hfz24_0:=blk_frozen BK578.out 0
    have hfz24_1:=blk_frozen BK578.out 1
    have hfz24_2:=blk_frozen BK578.out 2
    go_wp2_with (first|((with_reducible refine gate_callee (f:=40) rfl ?_);refine goesL_ (some 16) rfl rfl Try.func40 (by kernel_rfl) rfl #[.agg #[.slice A0_0 l0_0.length c0_0,.int .i64 a0_1,.int .i64 a0_2]] rfl (by (try simp only [List.map_toArray,List.map_cons,List.map_nil]);first|done|rfl|(simp only [List.length_drop,List.length_take];rfl)) ?_;(with_reducible refine (impl_MachIn.calls _ _ l0_0 a0_1 a0_2 true _ ?side1 ?side2 A10.out).mono ?_);(case side1=>repeat (first|exact (Kd.C_below HR0_0.out HB.out)|(with_reducible refine Kd.C_alloc ?_ _)|(with_reducible refine Kd.C_drewN ?_ _)|(with_reducible refine Kd.C_drew ?_)));(case side2=>exact HC0_0.out);rintro e w25 ⟨rfl,hb⟩;refine ⟨_,rfl,?_⟩;have n0_:=Aside0.mk (blk_below (g:=gb578) (o:=.cells #[.slice A0_0 l0_0.length c0_0,.int .i64 a0_1,.int .i64 a0_2] 31 (0,0)) (by (with_reducible repeat (first|refine yE ?_ _|refine yF ?_|refine yG ?_ _));exact BK578.out) hb);have n1_:=Aside0.mk (blk_below (g:=gb579) (o:=.cells #[.slice A1_0 l1_0.length c1_0,.int .i64 a1_1,.int .i64 a1_2] 31 (0,0)) (by (with_reducible repeat (first|refine yE ?_ _|refine yF ?_|refine yG ?_ _));exact BK579.out) hb);have n2_:=Aside0.mk (blk_below (g:=gb580) (o:=.cells #[.slice none 0 0,.int .i64 0,.int .i64 0] 31 (0,0)) (by (with_reducible repeat (first|refine yE ?_ _|refine yF ?_|refine yG ?_ _));exact BK580.out) hb);have n3_:=Aside0.mk (yP (by repeat (first|(with_reducible first|exact HB.out|apply yA|apply yB|apply yC|refine yD ?_ GE578.out|refine yD ?_ GE579.out|refine yD ?_ GE580.out)|exact HB.out)) hb);clear BK578;clear BK579;clear BK580;clear HB;have BK578:=n0_;have BK579:=n1_;have BK580:=n2_;have HB:=n3_;clear n0_ n1_ n2_ n3_;(try clear hb);(try clear hb2);(try clear hk);(try clear hi);have hnb26:=NB579_580.out;have hnc26:=NB580_579.out;have hcz27_0:w25.cell? ⟨gb579,0,none⟩=some (.slice A1_0 l1_0.length c1_0):=(blk_cell BK579.out 0).trans rfl;have hcz27_1:w25.cell? ⟨gb579,1,none⟩=some (.int .i64 a1_1):=(blk_cell BK579.out 1).trans rfl;have hcz27_2:w25.cell? ⟨gb579,2,none⟩=some (.int .i64 a1_2):=(blk_cell BK579.out 2).trans rfl;have hfz27_0:=blk_frozen BK579.out 0;have hfz27_1:=blk_frozen BK579.out 1;have hfz27_2:=blk_frozen BK579.out 2)|(go_at_call 40;(with_reducible refine (impl_MachIn.calls _ _ l1_0 a1_1 a1_2 false _ ?side1 ?side2 A12.out).mono ?_);(case side1=>repeat (first|exact (Kd.C_below HR1_0.out HB.out)|(with_reducible refine Kd.C_alloc ?_ _)|(with_reducible refine Kd.C_drewN ?_ _)|(with_reducible refine Kd.C_drew ?_)));(case side2=>exact HC1_0.out);rintro e w28 ⟨rfl,hb⟩;have n0_:=Aside0.mk (blk_below (g:=gb578) (o:=.cells #[.slice A0_0 l0_0.length c0_0,.int .i64 a0_1,.int .i64 a0_2] 31 (0,0)) (by (with_reducible repeat (first|refine yE ?_ _|refine yF ?_|refine yG ?_ _));exact BK578.out) hb);have n1_:=Aside0.mk (blk_below (g:=gb579) (o:=.cells #[.slice A1_0 l1_0.length c1_0,.int .i64 a1_1,.int .i64 a1_2] 31 (0,0)) (by (with_reducible repeat (first|refine yE ?_ _|refine yF ?_|refine yG ?_ _));exact BK579.out) hb);have n2_:=Aside0.mk (blk_below (g:=gb580) (o:=.cells #[.slice none 0 0,.int .i64 0,.int .i64 0] 31 (0,0)) (by (with_reducible repeat (first|refine yE ?_ _|refine yF ?_|refine yG ?_ _));exact BK580.out) hb);have n3_:=Aside0.mk (yP (by repeat (first|(with_reducible first|exact HB.out|apply yA|apply yB|apply yC|refine yD ?_ GE578.out|refine yD ?_ GE579.out|refine yD ?_ GE580.out)|exact HB.out)) hb);clear BK578;clear BK579;clear BK580;clear HB;have BK578:=n0_;have BK579:=n1_;have BK580:=n2_;have HB:=n3_;clear n0_ n1_ n2_ n3_;(try clear hb);(try clear hb2);(try clear hk);(try clear hi)))
    go_meet
    case rel=>exact ⟨_,(true),(by first|rfl|(simp;done)|(simp [*];done)|(simp [Int.tmod_eq_emod_of_nonneg];done)),H',⟨by first|omega|exact Nat.le_refl _⟩,⟨by (with_reducible repeat (first|refine yE ?_ _|refine yF ?_|refine yG ?_ _));exact BK578.out⟩,⟨by (with_reducible repeat (first|refine yE ?_ _|refine yF ?_|refine yG ?_ _));exact BK579.out⟩,⟨by (with_reducible repeat (first|refine yE ?_ _|refine yF ?_|refine yG ?_ _));exact BK580.out⟩,⟨by repeat (first|(with_reducible first|exact HB.out|apply yA|apply yB|apply yC|refine yD ?_ GE578.out|refine yD ?_ GE579.out|refine yD ?_ GE580.out)|exact HB.out)⟩⟩
  ·replace c11:=Bool.eq_false_iff.mpr c11
   subst c11
   have H1:(impl_MachBoth.j0 k (l1_0.length:Int) true l0_0 a0_1 a0_2 l1_0 a1_1 a1_2)=some (r1,r2,r3,r4):=by rw [if_neg (show ¬ (false=true) by decide)] at H;exact H
   clear H
   have H:=H1
   clear H1
   have H':=Aside0.mk H
   clear H
   have hnb29:=NB578_579.out
   have hnc29:=NB579_578.out
   have hnb30:=NB578_580.out
   have hnc30:=NB580_578.out
   have hcz31_0:w6.cell? ⟨gb578,0,none⟩=some (.slice A0_0 l0_0.length c0_0):=(blk_cell BK578.out 0).trans rfl
   have hcz31_1:w6.cell? ⟨gb578,1,none⟩=some (.int .i64 a0_1):=(blk_cell BK578.out 1).trans rfl
   have hcz31_2:w6.cell? ⟨gb578,2,none⟩=some (.int .i64 a0_2):=(blk_cell BK578.out 2).trans rfl
   have hfz31_0:=blk_frozen BK578.out 0
   have hfz31_1:=blk_frozen BK578.out 1
   have hfz31_2:=blk_frozen BK578.out 2
   go_wp2_with (first|((with_reducible refine gate_callee (f:=40) rfl ?_);refine goesL_ (some 16) rfl rfl Try.func40 (by kernel_rfl) rfl #[.agg #[.slice A0_0 l0_0.length c0_0,.int .i64 a0_1,.int .i64 a0_2]] rfl (by (try simp only [List.map_toArray,List.map_cons,List.map_nil]);first|done|rfl|(simp only [List.length_drop,List.length_take];rfl)) ?_;(with_reducible refine (impl_MachIn.calls _ _ l0_0 a0_1 a0_2 false _ ?side1 ?side2 A10.out).mono ?_);(case side1=>repeat (first|exact (Kd.C_below HR0_0.out HB.out)|(with_reducible refine Kd.C_alloc ?_ _)|(with_reducible refine Kd.C_drewN ?_ _)|(with_reducible refine Kd.C_drew ?_)));(case side2=>exact HC0_0.out);rintro e w32 ⟨rfl,hb⟩;refine ⟨_,rfl,?_⟩;have n0_:=Aside0.mk (blk_below (g:=gb578) (o:=.cells #[.slice A0_0 l0_0.length c0_0,.int .i64 a0_1,.int .i64 a0_2] 31 (0,0)) (by (with_reducible repeat (first|refine yE ?_ _|refine yF ?_|refine yG ?_ _));exact BK578.out) hb);have n1_:=Aside0.mk (blk_below (g:=gb579) (o:=.cells #[.slice A1_0 l1_0.length c1_0,.int .i64 a1_1,.int .i64 a1_2] 31 (0,0)) (by (with_reducible repeat (first|refine yE ?_ _|refine yF ?_|refine yG ?_ _));exact BK579.out) hb);have n2_:=Aside0.mk (blk_below (g:=gb580) (o:=.cells #[.slice none 0 0,.int .i64 0,.int .i64 0] 31 (0,0)) (by (with_reducible repeat (first|refine yE ?_ _|refine yF ?_|refine yG ?_ _));exact BK580.out) hb);have n3_:=Aside0.mk (yP (by repeat (first|(with_reducible first|exact HB.out|apply yA|apply yB|apply yC|refine yD ?_ GE578.out|refine yD ?_ GE579.out|refine yD ?_ GE580.out)|exact HB.out)) hb);clear BK578;clear BK579;clear BK580;clear HB;have BK578:=n0_;have BK579:=n1_;have BK580:=n2_;have HB:=n3_;clear n0_ n1_ n2_ n3_;(try clear hb);(try clear hb2);(try clear hk);(try clear hi)))
   go_meet
   case rel=>exact ⟨_,(true),(by first|rfl|(simp;done)|(simp [*];done)|(simp [Int.tmod_eq_emod_of_nonneg];done)),H',⟨by first|omega|exact Nat.le_refl _⟩,⟨by (with_reducible repeat (first|refine yE ?_ _|refine yF ?_|refine yG ?_ _));exact BK578.out⟩,⟨by (with_reducible repeat (first|refine yE ?_ _|refine yF ?_|refine yG ?_ _));exact BK579.out⟩,⟨by (with_reducible repeat (first|refine yE ?_ _|refine yF ?_|refine yG ?_ _));exact BK580.out⟩,⟨by repeat (first|(with_reducible first|exact HB.out|apply yA|apply yB|apply yC|refine yD ?_ GE578.out|refine yD ?_ GE579.out|refine yD ?_ GE580.out)|exact HB.out)⟩⟩
 case rest =>
  clear HC3
  try clear c1
  try clear c2
  try clear p2
  try clear c3
  try clear c4
  try clear p6
  try clear c7
  try clear c8
  try clear c11
  try clear c13
  try clear c14
  try clear c15
  try clear c18
  try clear c21
  try clear c22
  try clear c23
  try clear c26
  try clear c29
  try clear c30
  try clear hcz16_0
  try clear hcz16_1
  try clear hcz16_2
  try clear hcz19_0
  try clear hcz19_1
  try clear hcz19_2
  try clear hcz21_0
  try clear hcz21_1
  try clear hcz21_2
  try clear hcz24_0
  try clear hcz24_1
  try clear hcz24_2
  try clear hcz27_0
  try clear hcz27_1
  try clear hcz27_2
  try clear hcz31_0
  try clear hcz31_1
  try clear hcz31_2
  try clear hcz9_0
  try clear hcz9_1
  try clear hcz9_2
  try clear hfz16_0
  try clear hfz16_1
  try clear hfz16_2
  try clear hfz19_0
  try clear hfz19_1
  try clear hfz19_2
  try clear hfz21_0
  try clear hfz21_1
  try clear hfz21_2
  try clear hfz24_0
  try clear hfz24_1
  try clear hfz24_2
  try clear hfz27_0
  try clear hfz27_1
  try clear hfz27_2
  try clear hfz31_0
  try clear hfz31_1
  try clear hfz31_2
  try clear hfz9_0
  try clear hfz9_1
  try clear hfz9_2
  obtain ⟨kq,x30_2,rfl,HA,HJ2,BK578,BK579,BK580,HB⟩:=hcut
  cases kq with
  | zero=>exact absurd HA.out (by simp [impl_MachBoth.j0])
  | succ kj2 =>
   have H:=HA.out
   clear HA
   simp only [impl_MachBoth.j0] at H
   by_cases c33:x30_2=true
   ·subst c33
    have H1:(some (([]:List Int),0,0,false))=some (r1,r2,r3,r4):=by rw [if_pos rfl] at H;exact H
    clear H
    have H:=H1
    clear H1
    simp only [Option.some.injEq,Prod.mk.injEq] at H
    obtain ⟨rfl,rfl,rfl,rfl⟩:=H
    have hnb34:=NB580_578.out
    have hnc34:=NB578_580.out
    have hnb35:=NB580_579.out
    have hnc35:=NB579_580.out
    have hcz36_0:wc.cell? ⟨gb580,0,none⟩=some (.slice none 0 0):=(blk_cell BK580.out 0).trans rfl
    have hcz36_1:wc.cell? ⟨gb580,1,none⟩=some (.int .i64 0):=(blk_cell BK580.out 1).trans rfl
    have hcz36_2:wc.cell? ⟨gb580,2,none⟩=some (.int .i64 0):=(blk_cell BK580.out 2).trans rfl
    have hfz36_0:=blk_frozen BK580.out 0
    have hfz36_1:=blk_frozen BK580.out 1
    have hfz36_2:=blk_frozen BK580.out 2
    go_wp2
    refine bodyPost_ret (results_ct rfl _ _ gb580 31 #[.slice none 0 0,.int .i64 0,.int .i64 0] (0,0) _ rfl (by (with_reducible repeat (first|refine yE ?_ _|refine yF ?_|refine yG ?_ _));refine blk_put (cs:=#[.slice none 0 0,.int .i64 0,.int .i64 0]) ?_ 2 _ rfl;(with_reducible repeat (first|refine yE ?_ _|refine yF ?_|refine yG ?_ _));refine blk_put (cs:=#[.slice none 0 0,.int .i64 0,.int .i64 0]) ?_ 1 _ rfl;(with_reducible repeat (first|refine yE ?_ _|refine yF ?_|refine yG ?_ _));refine blk_put (cs:=#[.slice none 0 0,.int .i64 0,.int .i64 0]) ?_ 0 _ rfl;(with_reducible repeat (first|refine yE ?_ _|refine yF ?_|refine yG ?_ _));exact BK580.out) Try.underlying31 rfl (by kernel_rfl)) rfl ?_
    exact ⟨_,by first|rfl|(simp [errW_none,errW_some]<;>rfl)|(simp [*,errW_none,errW_some]<;>rfl)|(simp [errW_none,errW_some];exact ⟨rfl,rfl⟩),by first|exact Kd.R_nil _ _ _ _ _|exact Kd.N_nil _ _ _ _ _|exact Kd.V_nil _ _ _ _ _|exact Kd.Q_nil _ _ _ _ _|exact Kd.S_nil _ _ _ _ _,by repeat (first|(with_reducible first|exact HB.out|apply yA|apply yB|apply yC|refine yD ?_ GE578.out|refine yD ?_ GE579.out|refine yD ?_ GE580.out)|exact HB.out)⟩
   ·replace c33:=Bool.eq_false_iff.mpr c33
    subst c33
    have H1:((impl_pairs.f kj2 a0_1 a1_1 (l1_0.length:Int)).bind fun t583=>((impl_pairs.f kj2 a0_2 a1_2 (l1_0.length:Int)).bind fun t584=>(impl_MachBoth.l0 kj2 (l1_0.length:Int) l0_0 (l0_0.length:Int) 0 l1_0 a1_1 a1_2 ([]:List Int) t583 t584)))=some (r1,r2,r3,r4):=by rw [if_neg (show ¬ (false=true) by decide)] at H;exact H
    clear H
    have H:=H1
    clear H1
    replace H:=Option.bind_eq_some_iff.mp H
    obtain ⟨t583,A370,H⟩:=H
    replace H:((impl_pairs.f kj2 a0_2 a1_2 (l1_0.length:Int)).bind fun t584=>(impl_MachBoth.l0 kj2 (l1_0.length:Int) l0_0 (l0_0.length:Int) 0 l1_0 a1_1 a1_2 ([]:List Int) t583 t584))=some (r1,r2,r3,r4):=H
    have A37:=Aside0.mk A370
    clear A370
    replace H:=Option.bind_eq_some_iff.mp H
    obtain ⟨t584,A380,H⟩:=H
    replace H:(impl_MachBoth.l0 kj2 (l1_0.length:Int) l0_0 (l0_0.length:Int) 0 l1_0 a1_1 a1_2 ([]:List Int) t583 t584)=some (r1,r2,r3,r4):=H
    have A38:=Aside0.mk A380
    clear A380
    have H':=Aside0.mk H
    clear H
    try go_wp2
    have n0_:=Aside0.mk (yF BK578.out)
    have n1_:=Aside0.mk (yF BK579.out)
    have n2_:=Aside0.mk (yF BK580.out)
    have n3_:=Aside0.mk (yC HB.out)
    clear BK578
    clear BK579
    clear BK580
    clear HB
    have BK578:=n0_
    have BK579:=n1_
    have BK580:=n2_
    have HB:=n3_
    clear n0_ n1_ n2_ n3_
    refine start_ (n:=15) (S:=fun w'=>w'.cell? ⟨gb578,0,none⟩=some (.slice A0_0 l0_0.length c0_0)∧w'.cell? ⟨gb578,1,none⟩=some (.int .i64 a0_1)∧w'.cell? ⟨gb578,2,none⟩=some (.int .i64 a0_2)∧w'.cell? ⟨gb579,0,none⟩=some (.slice A1_0 l1_0.length c1_0)∧w'.cell? ⟨gb579,1,none⟩=some (.int .i64 a1_1)∧w'.cell? ⟨gb579,2,none⟩=some (.int .i64 a1_2)) (ds:=[]) #[false,false,false,false,false,false,false,false,false,false,false,false,false,false,false] (by kernel_rfl) rfl rfl ⟨(blk_cell BK578.out 0).trans rfl,(blk_cell BK578.out 1).trans rfl,(blk_cell BK578.out 2).trans rfl,(blk_cell BK579.out 0).trans rfl,(blk_cell BK579.out 1).trans rfl,(blk_cell BK579.out 2).trans rfl⟩ (fun hHeld=>?_);refine with_tabW impl_MachBoth.tab4 impl_MachBoth.bits4 (fun HT_ HW_=>?_)
    generalize wc.drew=w39 at BK578 BK579 BK580 HB hHeld ⊢
    refine pure_ (i:=0) (N:=some 32) (v:=?_) (a':=?_) #[true,false,false,false,false,false,false,false,false,false,false,false,false,false,false] rfl rfl (any_of HT_.out (by kernel_rfl)) (fun _ _ _ h=>h) (Or.inl ⟨by rfl,?_⟩) ?_ ?_
    rotate_left
    ·intro w'
     go_simp
     with_reducible rfl
    rotate_left
    ·simp only [Act.put,yK,yL,yM,i64_w,i32_w]
     rfl
    refine pure_ (i:=2) (N:=some 34) (v:=?_) (a':=?_) #[true,false,true,false,false,false,false,false,false,false,false,false,false,false,false] rfl rfl (any_of HT_.out (by kernel_rfl)) (fun _ _ _ h=>h) (Or.inl ⟨by rfl,?_⟩) ?_ ?_
    rotate_left
    ·intro w'
     go_simp
     with_reducible rfl
    rotate_left
    ·simp only [Act.put,yK,yL,yM,i64_w,i32_w]
     rfl
    refine pure_ (i:=4) (N:=some 36) (v:=?_) (a':=?_) #[true,false,true,false,true,false,false,false,false,false,false,false,false,false,false] rfl rfl (any_of HT_.out (by kernel_rfl)) (fun _ _ _ h=>h) (Or.inl ⟨by rfl,?_⟩) ?_ ?_
    rotate_left
    ·intro w'
     go_simp
     with_reducible rfl
    rotate_left
    ·simp only [Act.put,yK,yL,yM,i64_w,i32_w]
     rfl
    refine pure_ (i:=6) (N:=some 38) (v:=?_) (a':=?_) #[true,false,true,false,true,false,true,false,false,false,false,false,false,false,false] rfl rfl (any_of HT_.out (by kernel_rfl)) (fun _ _ _ h=>h) (Or.inl ⟨by rfl,?_⟩) ?_ ?_
    rotate_left
    ·intro w'
     go_simp
     with_reducible rfl
    rotate_left
    ·simp only [Act.put,yK,yL,yM,i64_w,i32_w]
     rfl
    refine pure_ (i:=8) (N:=some 40) (v:=?_) (a':=?_) #[true,false,true,false,true,false,true,false,true,false,false,false,false,false,false] rfl rfl (any_of HT_.out (by kernel_rfl)) (fun _ _ _ h=>h) (Or.inl ⟨by rfl,?_⟩) ?_ ?_
    rotate_left
    ·intro w'
     go_simp
     with_reducible rfl
    rotate_left
    ·simp only [Act.put,yK,yL,yM,i64_w,i32_w]
     rfl
    refine pure_ (i:=10) (N:=some 42) (v:=?_) (a':=?_) #[true,false,true,false,true,false,true,false,true,false,true,false,false,false,false] rfl rfl (any_of HT_.out (by kernel_rfl)) (fun _ _ _ h=>h) (Or.inl ⟨by rfl,?_⟩) ?_ ?_
    rotate_left
    ·intro w'
     go_simp
     with_reducible rfl
    rotate_left
    ·simp only [Act.put,yK,yL,yM,i64_w,i32_w]
     rfl
    refine take_ (i:=1) (N:=some 33) (v:=?_) (a':=?_) #[true,true,true,false,true,false,true,false,true,false,true,false,false,false,false] rfl rfl (take_ofW HT_.out HW_.out (by kernel_rfl)) (fun _ _ _ h=>h) (Or.inl ⟨by rfl,?_⟩) hHeld ?_ ?_
    rotate_left
    ·rintro w' ⟨s0,s1,s2,s3,s4,s5⟩
     go_simp
     with_reducible rfl
    rotate_left
    ·simp only [Act.put,yK,yL,yM,i64_w,i32_w]
     rfl
    refine take_ (i:=3) (N:=some 35) (v:=?_) (a':=?_) #[true,true,true,true,true,false,true,false,true,false,true,false,false,false,false] rfl rfl (take_ofW HT_.out HW_.out (by kernel_rfl)) (fun _ _ _ h=>h) (Or.inl ⟨by rfl,?_⟩) hHeld ?_ ?_
    rotate_left
    ·rintro w' ⟨s0,s1,s2,s3,s4,s5⟩
     go_simp
     with_reducible rfl
    rotate_left
    ·simp only [Act.put,yK,yL,yM,i64_w,i32_w]
     rfl
    refine take_ (i:=7) (N:=some 39) (v:=?_) (a':=?_) #[true,true,true,true,true,false,true,true,true,false,true,false,false,false,false] rfl rfl (take_ofW HT_.out HW_.out (by kernel_rfl)) (fun _ _ _ h=>h) (Or.inl ⟨by rfl,?_⟩) hHeld ?_ ?_
    rotate_left
    ·rintro w' ⟨s0,s1,s2,s3,s4,s5⟩
     go_simp
     with_reducible rfl
    rotate_left
    ·simp only [Act.put,yK,yL,yM,i64_w,i32_w]
     rfl
    refine take_ (i:=9) (N:=some 41) (v:=?_) (a':=?_) #[true,true,true,true,true,false,true,true,true,true,true,false,false,false,false] rfl rfl (take_ofW HT_.out HW_.out (by kernel_rfl)) (fun _ _ _ h=>h) (Or.inl ⟨by rfl,?_⟩) hHeld ?_ ?_
    rotate_left
    ·rintro w' ⟨s0,s1,s2,s3,s4,s5⟩
     go_simp
     with_reducible rfl
    rotate_left
    ·simp only [Act.put,yK,yL,yM,i64_w,i32_w]
     rfl
    refine join_ (σ:=Nat) 1 #[true,true,true,true,true,true,true,true,true,true,true,true,true,true,false] (fun s_=>[(37,.int .i64 t583),(43,.int .i64 t584),(7,.pointer (some ⟨s_,0,none⟩)),(44,.agg #[.slice none 0 0,.int .i64 t583,.int .i64 t584])]) (fun s_ w'=>(w'.cell? ⟨gb578,0,none⟩=some (.slice A0_0 l0_0.length c0_0)∧w'.cell? ⟨gb578,1,none⟩=some (.int .i64 a0_1)∧w'.cell? ⟨gb578,2,none⟩=some (.int .i64 a0_2)∧w'.cell? ⟨gb579,0,none⟩=some (.slice A1_0 l1_0.length c1_0)∧w'.cell? ⟨gb579,1,none⟩=some (.int .i64 a1_1)∧w'.cell? ⟨gb579,2,none⟩=some (.int .i64 a1_2))∧(w'.heap[gb578]?=some (.cells #[.slice A0_0 l0_0.length c0_0,.int .i64 a0_1,.int .i64 a0_2] 31 (0,0)))∧(w'.heap[gb579]?=some (.cells #[.slice A1_0 l1_0.length c1_0,.int .i64 a1_1,.int .i64 a1_2] 31 (0,0)))∧(w'.heap[gb580]?=some (.cells #[.slice none 0 0,.int .i64 0,.int .i64 0] 31 (0,0)))∧(w'.heap[s_]?=some (.cells #[.slice none 0 0,.int .i64 0,.int .i64 0] 31 (0,0)))∧(w.heap.size≤s_)∧(w.heap.size≤s_)∧(gb578≠s_)∧(s_≠gb578)∧(gb579≠s_)∧(s_≠gb579)∧(gb580≠s_)∧(s_≠gb580)∧(Below w.heap.size w w')) ?_ ?_
    rotate_left
    ·intro hCont
     refine two_ (i:=5) (j:=13) (Ni:=some 37) (Nj:=some 7) #[true,true,true,true,true,true,true,true,true,true,true,false,false,false,false] #[true,true,true,true,true,false,true,true,true,true,true,false,false,true,false] rfl rfl rfl rfl (two_of HT_.out (by kernel_rfl)) (by decide) (by decide) (fun K hK=>?_) (fun K hK=>?_)
     ·skip
      refine goes_ Try.func47 (by kernel_rfl) rfl #[.int .i64 a0_1,.int .i64 a1_1,.int .i64 (l1_0.length:Int)] (by rfl) rfl rfl (by (try simp only [List.map_toArray,List.map_cons,List.map_nil]);first|done|rfl|(simp only [List.length_drop,List.length_take];rfl)) ?_
      with_reducible refine (impl_pairs.calls kj2 a0_1 a1_1 (l1_0.length:Int) t583 _ A37.out).mono ?_
      rintro e w' ⟨rfl,⟨nd,rfl⟩⟩
      refine ⟨_,rfl,?_⟩
      refine hK.out _ _ ⟨(blk_cell BK578.out 0).trans rfl,(blk_cell BK578.out 1).trans rfl,(blk_cell BK578.out 2).trans rfl,(blk_cell BK579.out 0).trans rfl,(blk_cell BK579.out 1).trans rfl,(blk_cell BK579.out 2).trans rfl⟩ (fun hHeld=>?_)
      clear hK K
      refine norm_ (a':=?_) ?_ ?_
      rotate_left
      ·show Act.put _ (some 37) _=_
       simp only [Act.put,yK,yL,yM,i64_w,i32_w]
       rfl
      refine two_ (i:=11) (j:=13) (Ni:=some 43) (Nj:=some 7) #[true,true,true,true,true,true,true,true,true,true,true,true,false,false,false] #[true,true,true,true,true,true,true,true,true,true,true,false,false,true,false] rfl rfl rfl rfl (two_of HT_.out (by kernel_rfl)) (by decide) (by decide) (fun K hK=>?_) (fun K hK=>?_)
      ·skip
       refine goes_ Try.func47 (by kernel_rfl) rfl #[.int .i64 a0_2,.int .i64 a1_2,.int .i64 (l1_0.length:Int)] (by rfl) rfl rfl (by (try simp only [List.map_toArray,List.map_cons,List.map_nil]);first|done|rfl|(simp only [List.length_drop,List.length_take];rfl)) ?_
       with_reducible refine (impl_pairs.calls kj2 a0_2 a1_2 (l1_0.length:Int) t584 _ A38.out).mono ?_
       rintro e w' ⟨rfl,⟨nd,rfl⟩⟩
       refine ⟨_,rfl,?_⟩
       refine hK.out _ _ ⟨(blk_cell BK578.out 0).trans rfl,(blk_cell BK578.out 1).trans rfl,(blk_cell BK578.out 2).trans rfl,(blk_cell BK579.out 0).trans rfl,(blk_cell BK579.out 1).trans rfl,(blk_cell BK579.out 2).trans rfl⟩ (fun hHeld=>?_)
       clear hK K
       refine norm_ (a':=?_) ?_ ?_
       rotate_left
       ·show Act.put _ (some 43) _=_
        simp only [Act.put,yK,yL,yM,i64_w,i32_w]
        rfl
       refine pure_ (i:=12) (N:=some 44) (v:=?_) (a':=?_) #[true,true,true,true,true,true,true,true,true,true,true,true,true,false,false] rfl rfl (any_of HT_.out (by kernel_rfl)) (fun _ _ _ h=>h) (Or.inl ⟨by rfl,?_⟩) ?_ ?_
       rotate_left
       ·intro w'
        go_simp
        with_reducible rfl
       rotate_left
       ·simp only [Act.put,yK,yL,yM,i64_w,i32_w]
        rfl
       refine one_ (i:=13) (N:=some 7) #[true,true,true,true,true,true,true,true,true,true,true,true,true,true,false] rfl rfl (one_of HT_.out (by kernel_rfl)) (by decide) (fun K hK=>?_)
       refine box_step ?hg (N:=7) ?hd (cs:=#[.slice none 0 0,.int .i64 0,.int .i64 0]) (t:=31) ?hr ?_;(case hd=>rfl);(case hg=>rfl);(case hr=>first|(go_simp;done)|(go_simp;rfl))
       intro gb585 hg w40 hbox hb
       have n0_:=Aside0.mk (blk_below (g:=gb578) (o:=.cells #[.slice A0_0 l0_0.length c0_0,.int .i64 a0_1,.int .i64 a0_2] 31 (0,0)) (by (with_reducible repeat (first|refine yE ?_ _|refine yF ?_|refine yG ?_ _));exact BK578.out) hb)
       have n1_:=Aside0.mk (blk_below (g:=gb579) (o:=.cells #[.slice A1_0 l1_0.length c1_0,.int .i64 a1_1,.int .i64 a1_2] 31 (0,0)) (by (with_reducible repeat (first|refine yE ?_ _|refine yF ?_|refine yG ?_ _));exact BK579.out) hb)
       have n2_:=Aside0.mk (blk_below (g:=gb580) (o:=.cells #[.slice none 0 0,.int .i64 0,.int .i64 0] 31 (0,0)) (by (with_reducible repeat (first|refine yE ?_ _|refine yF ?_|refine yG ?_ _));exact BK580.out) hb)
       have n3_:=Aside0.mk (yP (by repeat (first|(with_reducible first|exact HB.out|apply yA|apply yB|apply yC|refine yD ?_ GE578.out|refine yD ?_ GE579.out|refine yD ?_ GE580.out)|exact HB.out)) hb)
       have n4_:=Aside0.mk (hbox)
       have n5_:=Aside0.mk ((by rw [hg];exact (yQ (by repeat (first|(with_reducible first|exact HB.out|apply yA|apply yB|apply yC|refine yD ?_ GE578.out|refine yD ?_ GE579.out|refine yD ?_ GE580.out)|exact HB.out))):w.heap.size≤gb585))
       have n6_:=Aside0.mk ((by rw [hg];exact (yQ (by repeat (first|(with_reducible first|exact HB.out|apply yA|apply yB|apply yC|refine yD ?_ GE578.out|refine yD ?_ GE579.out|refine yD ?_ GE580.out)|exact HB.out))):w.heap.size≤gb585))
       have n7_:=Aside0.mk ((by rw [hg];exact Nat.ne_of_lt (blk_lt (g:=gb578) (o:=.cells #[.slice A0_0 l0_0.length c0_0,.int .i64 a0_1,.int .i64 a0_2] 31 (0,0)) (by (with_reducible repeat (first|refine yE ?_ _|refine yF ?_|refine yG ?_ _));exact BK578.out)):gb578≠gb585))
       have n8_:=Aside0.mk ((by rw [hg];exact Nat.ne_of_gt (blk_lt (g:=gb578) (o:=.cells #[.slice A0_0 l0_0.length c0_0,.int .i64 a0_1,.int .i64 a0_2] 31 (0,0)) (by (with_reducible repeat (first|refine yE ?_ _|refine yF ?_|refine yG ?_ _));exact BK578.out)):gb585≠gb578))
       have n9_:=Aside0.mk ((by rw [hg];exact Nat.ne_of_lt (blk_lt (g:=gb579) (o:=.cells #[.slice A1_0 l1_0.length c1_0,.int .i64 a1_1,.int .i64 a1_2] 31 (0,0)) (by (with_reducible repeat (first|refine yE ?_ _|refine yF ?_|refine yG ?_ _));exact BK579.out)):gb579≠gb585))
       have n10_:=Aside0.mk ((by rw [hg];exact Nat.ne_of_gt (blk_lt (g:=gb579) (o:=.cells #[.slice A1_0 l1_0.length c1_0,.int .i64 a1_1,.int .i64 a1_2] 31 (0,0)) (by (with_reducible repeat (first|refine yE ?_ _|refine yF ?_|refine yG ?_ _));exact BK579.out)):gb585≠gb579))
       have n11_:=Aside0.mk ((by rw [hg];exact Nat.ne_of_lt (blk_lt (g:=gb580) (o:=.cells #[.slice none 0 0,.int .i64 0,.int .i64 0] 31 (0,0)) (by (with_reducible repeat (first|refine yE ?_ _|refine yF ?_|refine yG ?_ _));exact BK580.out)):gb580≠gb585))
       have n12_:=Aside0.mk ((by rw [hg];exact Nat.ne_of_gt (blk_lt (g:=gb580) (o:=.cells #[.slice none 0 0,.int .i64 0,.int .i64 0] 31 (0,0)) (by (with_reducible repeat (first|refine yE ?_ _|refine yF ?_|refine yG ?_ _));exact BK580.out)):gb585≠gb580))
       clear BK578
       clear BK579
       clear BK580
       clear HB
       have BK578:=n0_
       have BK579:=n1_
       have BK580:=n2_
       have HB:=n3_
       have BK585:=n4_
       have GW585:=n5_
       have GE585:=n6_
       have NB578_585:=n7_
       have NB585_578:=n8_
       have NB579_585:=n9_
       have NB585_579:=n10_
       have NB580_585:=n11_
       have NB585_580:=n12_
       clear n0_ n1_ n2_ n3_ n4_ n5_ n6_ n7_ n8_ n9_ n10_ n11_ n12_
       clear hb hbox hg
       refine hK.out _ _ ⟨(blk_cell BK578.out 0).trans rfl,(blk_cell BK578.out 1).trans rfl,(blk_cell BK578.out 2).trans rfl,(blk_cell BK579.out 0).trans rfl,(blk_cell BK579.out 1).trans rfl,(blk_cell BK579.out 2).trans rfl⟩ (fun hHeld=>?_)
       clear hK K
       refine norm_ (a':=?_) ?_ ?_
       rotate_left
       ·show Act.put _ (some 7) _=_
        simp only [Act.put,yK,yL,yM,i64_w,i32_w]
        rfl
       exact norm_ (by simp only [putAll,Act.put,yK,yL,yM]) (hCont (gb585) _ ⟨hHeld,(by (with_reducible repeat (first|refine yE ?_ _|refine yF ?_|refine yG ?_ _));exact BK578.out),(by (with_reducible repeat (first|refine yE ?_ _|refine yF ?_|refine yG ?_ _));exact BK579.out),(by (with_reducible repeat (first|refine yE ?_ _|refine yF ?_|refine yG ?_ _));exact BK580.out),(by (with_reducible repeat (first|refine yE ?_ _|refine yF ?_|refine yG ?_ _));exact BK585.out),GW585.out,GE585.out,NB578_585.out,NB585_578.out,NB579_585.out,NB585_579.out,NB580_585.out,NB585_580.out,(by repeat (first|(with_reducible first|exact HB.out|apply yA|apply yB|apply yC|refine yD ?_ GE578.out|refine yD ?_ GE579.out|refine yD ?_ GE580.out|refine yD ?_ GE585.out)|exact HB.out))⟩)
      ·skip
       refine box_step ?hg (N:=7) ?hd (cs:=#[.slice none 0 0,.int .i64 0,.int .i64 0]) (t:=31) ?hr ?_;(case hd=>rfl);(case hg=>rfl);(case hr=>first|(go_simp;done)|(go_simp;rfl))
       intro gb585 hg w40 hbox hb
       have n0_:=Aside0.mk (blk_below (g:=gb578) (o:=.cells #[.slice A0_0 l0_0.length c0_0,.int .i64 a0_1,.int .i64 a0_2] 31 (0,0)) (by (with_reducible repeat (first|refine yE ?_ _|refine yF ?_|refine yG ?_ _));exact BK578.out) hb)
       have n1_:=Aside0.mk (blk_below (g:=gb579) (o:=.cells #[.slice A1_0 l1_0.length c1_0,.int .i64 a1_1,.int .i64 a1_2] 31 (0,0)) (by (with_reducible repeat (first|refine yE ?_ _|refine yF ?_|refine yG ?_ _));exact BK579.out) hb)
       have n2_:=Aside0.mk (blk_below (g:=gb580) (o:=.cells #[.slice none 0 0,.int .i64 0,.int .i64 0] 31 (0,0)) (by (with_reducible repeat (first|refine yE ?_ _|refine yF ?_|refine yG ?_ _));exact BK580.out) hb)
       have n3_:=Aside0.mk (yP (by repeat (first|(with_reducible first|exact HB.out|apply yA|apply yB|apply yC|refine yD ?_ GE578.out|refine yD ?_ GE579.out|refine yD ?_ GE580.out)|exact HB.out)) hb)
       have n4_:=Aside0.mk (hbox)
       have n5_:=Aside0.mk ((by rw [hg];exact (yQ (by repeat (first|(with_reducible first|exact HB.out|apply yA|apply yB|apply yC|refine yD ?_ GE578.out|refine yD ?_ GE579.out|refine yD ?_ GE580.out)|exact HB.out))):w.heap.size≤gb585))
       have n6_:=Aside0.mk ((by rw [hg];exact (yQ (by repeat (first|(with_reducible first|exact HB.out|apply yA|apply yB|apply yC|refine yD ?_ GE578.out|refine yD ?_ GE579.out|refine yD ?_ GE580.out)|exact HB.out))):w.heap.size≤gb585))
       have n7_:=Aside0.mk ((by rw [hg];exact Nat.ne_of_lt (blk_lt (g:=gb578) (o:=.cells #[.slice A0_0 l0_0.length c0_0,.int .i64 a0_1,.int .i64 a0_2] 31 (0,0)) (by (with_reducible repeat (first|refine yE ?_ _|refine yF ?_|refine yG ?_ _));exact BK578.out)):gb578≠gb585))
       have n8_:=Aside0.mk ((by rw [hg];exact Nat.ne_of_gt (blk_lt (g:=gb578) (o:=.cells #[.slice A0_0 l0_0.length c0_0,.int .i64 a0_1,.int .i64 a0_2] 31 (0,0)) (by (with_reducible repeat (first|refine yE ?_ _|refine yF ?_|refine yG ?_ _));exact BK578.out)):gb585≠gb578))
       have n9_:=Aside0.mk ((by rw [hg];exact Nat.ne_of_lt (blk_lt (g:=gb579) (o:=.cells #[.slice A1_0 l1_0.length c1_0,.int .i64 a1_1,.int .i64 a1_2] 31 (0,0)) (by (with_reducible repeat (first|refine yE ?_ _|refine yF ?_|refine yG ?_ _));exact BK579.out)):gb579≠gb585))
       have n10_:=Aside0.mk ((by rw [hg];exact Nat.ne_of_gt (blk_lt (g:=gb579) (o:=.cells #[.slice A1_0 l1_0.length c1_0,.int .i64 a1_1,.int .i64 a1_2] 31 (0,0)) (by (with_reducible repeat (first|refine yE ?_ _|refine yF ?_|refine yG ?_ _));exact BK579.out)):gb585≠gb579))
       have n11_:=Aside0.mk ((by rw [hg];exact Nat.ne_of_lt (blk_lt (g:=gb580) (o:=.cells #[.slice none 0 0,.int .i64 0,.int .i64 0] 31 (0,0)) (by (with_reducible repeat (first|refine yE ?_ _|refine yF ?_|refine yG ?_ _));exact BK580.out)):gb580≠gb585))
       have n12_:=Aside0.mk ((by rw [hg];exact Nat.ne_of_gt (blk_lt (g:=gb580) (o:=.cells #[.slice none 0 0,.int .i64 0,.int .i64 0] 31 (0,0)) (by (with_reducible repeat (first|refine yE ?_ _|refine yF ?_|refine yG ?_ _));exact BK580.out)):gb585≠gb580))
       clear BK578
       clear BK579
       clear BK580
       clear HB
       have BK578:=n0_
       have BK579:=n1_
       have BK580:=n2_
       have HB:=n3_
       have BK585:=n4_
       have GW585:=n5_
       have GE585:=n6_
       have NB578_585:=n7_
       have NB585_578:=n8_
       have NB579_585:=n9_
       have NB585_579:=n10_
       have NB580_585:=n11_
       have NB585_580:=n12_
       clear n0_ n1_ n2_ n3_ n4_ n5_ n6_ n7_ n8_ n9_ n10_ n11_ n12_
       clear hb hbox hg
       refine hK.out _ _ ⟨(blk_cell BK578.out 0).trans rfl,(blk_cell BK578.out 1).trans rfl,(blk_cell BK578.out 2).trans rfl,(blk_cell BK579.out 0).trans rfl,(blk_cell BK579.out 1).trans rfl,(blk_cell BK579.out 2).trans rfl⟩ (fun hHeld=>?_)
       clear hK K
       refine norm_ (a':=?_) ?_ ?_
       rotate_left
       ·show Act.put _ (some 7) _=_
        simp only [Act.put,yK,yL,yM,i64_w,i32_w]
        rfl
       refine one_ (i:=11) (N:=some 43) #[true,true,true,true,true,true,true,true,true,true,true,true,false,true,false] rfl rfl (one_of HT_.out (by kernel_rfl)) (by decide) (fun K hK=>?_)
       refine goes_ Try.func47 (by kernel_rfl) rfl #[.int .i64 a0_2,.int .i64 a1_2,.int .i64 (l1_0.length:Int)] (by rfl) rfl rfl (by (try simp only [List.map_toArray,List.map_cons,List.map_nil]);first|done|rfl|(simp only [List.length_drop,List.length_take];rfl)) ?_
       with_reducible refine (impl_pairs.calls kj2 a0_2 a1_2 (l1_0.length:Int) t584 _ A38.out).mono ?_
       rintro e w' ⟨rfl,⟨nd,rfl⟩⟩
       refine ⟨_,rfl,?_⟩
       refine hK.out _ _ ⟨(blk_cell BK578.out 0).trans rfl,(blk_cell BK578.out 1).trans rfl,(blk_cell BK578.out 2).trans rfl,(blk_cell BK579.out 0).trans rfl,(blk_cell BK579.out 1).trans rfl,(blk_cell BK579.out 2).trans rfl⟩ (fun hHeld=>?_)
       clear hK K
       refine norm_ (a':=?_) ?_ ?_
       rotate_left
       ·show Act.put _ (some 43) _=_
        simp only [Act.put,yK,yL,yM,i64_w,i32_w]
        rfl
       refine pure_ (i:=12) (N:=some 44) (v:=?_) (a':=?_) #[true,true,true,true,true,true,true,true,true,true,true,true,true,true,false] rfl rfl (any_of HT_.out (by kernel_rfl)) (fun _ _ _ h=>h) (Or.inl ⟨by rfl,?_⟩) ?_ ?_
       rotate_left
       ·intro w'
        go_simp
        with_reducible rfl
       rotate_left
       ·simp only [Act.put,yK,yL,yM,i64_w,i32_w]
        rfl
       exact norm_ (by simp only [putAll,Act.put,yK,yL,yM]) (hCont (gb585) _ ⟨hHeld,(by (with_reducible repeat (first|refine yE ?_ _|refine yF ?_|refine yG ?_ _));exact BK578.out),(by (with_reducible repeat (first|refine yE ?_ _|refine yF ?_|refine yG ?_ _));exact BK579.out),(by (with_reducible repeat (first|refine yE ?_ _|refine yF ?_|refine yG ?_ _));exact BK580.out),(by (with_reducible repeat (first|refine yE ?_ _|refine yF ?_|refine yG ?_ _));exact BK585.out),GW585.out,GE585.out,NB578_585.out,NB585_578.out,NB579_585.out,NB585_579.out,NB580_585.out,NB585_580.out,(by repeat (first|(with_reducible first|exact HB.out|apply yA|apply yB|apply yC|refine yD ?_ GE578.out|refine yD ?_ GE579.out|refine yD ?_ GE580.out|refine yD ?_ GE585.out)|exact HB.out))⟩)
     ·skip
      refine box_step ?hg (N:=7) ?hd (cs:=#[.slice none 0 0,.int .i64 0,.int .i64 0]) (t:=31) ?hr ?_;(case hd=>rfl);(case hg=>rfl);(case hr=>first|(go_simp;done)|(go_simp;rfl))
      intro gb585 hg w40 hbox hb
      have n0_:=Aside0.mk (blk_below (g:=gb578) (o:=.cells #[.slice A0_0 l0_0.length c0_0,.int .i64 a0_1,.int .i64 a0_2] 31 (0,0)) (by (with_reducible repeat (first|refine yE ?_ _|refine yF ?_|refine yG ?_ _));exact BK578.out) hb)
      have n1_:=Aside0.mk (blk_below (g:=gb579) (o:=.cells #[.slice A1_0 l1_0.length c1_0,.int .i64 a1_1,.int .i64 a1_2] 31 (0,0)) (by (with_reducible repeat (first|refine yE ?_ _|refine yF ?_|refine yG ?_ _));exact BK579.out) hb)
      have n2_:=Aside0.mk (blk_below (g:=gb580) (o:=.cells #[.slice none 0 0,.int .i64 0,.int .i64 0] 31 (0,0)) (by (with_reducible repeat (first|refine yE ?_ _|refine yF ?_|refine yG ?_ _));exact BK580.out) hb)
      have n3_:=Aside0.mk (yP (by repeat (first|(with_reducible first|exact HB.out|apply yA|apply yB|apply yC|refine yD ?_ GE578.out|refine yD ?_ GE579.out|refine yD ?_ GE580.out)|exact HB.out)) hb)
      have n4_:=Aside0.mk (hbox)
      have n5_:=Aside0.mk ((by rw [hg];exact (yQ (by repeat (first|(with_reducible first|exact HB.out|apply yA|apply yB|apply yC|refine yD ?_ GE578.out|refine yD ?_ GE579.out|refine yD ?_ GE580.out)|exact HB.out))):w.heap.size≤gb585))
      have n6_:=Aside0.mk ((by rw [hg];exact (yQ (by repeat (first|(with_reducible first|exact HB.out|apply yA|apply yB|apply yC|refine yD ?_ GE578.out|refine yD ?_ GE579.out|refine yD ?_ GE580.out)|exact HB.out))):w.heap.size≤gb585))
      have n7_:=Aside0.mk ((by rw [hg];exact Nat.ne_of_lt (blk_lt (g:=gb578) (o:=.cells #[.slice A0_0 l0_0.length c0_0,.int .i64 a0_1,.int .i64 a0_2] 31 (0,0)) (by (with_reducible repeat (first|refine yE ?_ _|refine yF ?_|refine yG ?_ _));exact BK578.out)):gb578≠gb585))
      have n8_:=Aside0.mk ((by rw [hg];exact Nat.ne_of_gt (blk_lt (g:=gb578) (o:=.cells #[.slice A0_0 l0_0.length c0_0,.int .i64 a0_1,.int .i64 a0_2] 31 (0,0)) (by (with_reducible repeat (first|refine yE ?_ _|refine yF ?_|refine yG ?_ _));exact BK578.out)):gb585≠gb578))
      have n9_:=Aside0.mk ((by rw [hg];exact Nat.ne_of_lt (blk_lt (g:=gb579) (o:=.cells #[.slice A1_0 l1_0.length c1_0,.int .i64 a1_1,.int .i64 a1_2] 31 (0,0)) (by (with_reducible repeat (first|refine yE ?_ _|refine yF ?_|refine yG ?_ _));exact BK579.out)):gb579≠gb585))
      have n10_:=Aside0.mk ((by rw [hg];exact Nat.ne_of_gt (blk_lt (g:=gb579) (o:=.cells #[.slice A1_0 l1_0.length c1_0,.int .i64 a1_1,.int .i64 a1_2] 31 (0,0)) (by (with_reducible repeat (first|refine yE ?_ _|refine yF ?_|refine yG ?_ _));exact BK579.out)):gb585≠gb579))
      have n11_:=Aside0.mk ((by rw [hg];exact Nat.ne_of_lt (blk_lt (g:=gb580) (o:=.cells #[.slice none 0 0,.int .i64 0,.int .i64 0] 31 (0,0)) (by (with_reducible repeat (first|refine yE ?_ _|refine yF ?_|refine yG ?_ _));exact BK580.out)):gb580≠gb585))
      have n12_:=Aside0.mk ((by rw [hg];exact Nat.ne_of_gt (blk_lt (g:=gb580) (o:=.cells #[.slice none 0 0,.int .i64 0,.int .i64 0] 31 (0,0)) (by (with_reducible repeat (first|refine yE ?_ _|refine yF ?_|refine yG ?_ _));exact BK580.out)):gb585≠gb580))
      clear BK578
      clear BK579
      clear BK580
      clear HB
      have BK578:=n0_
      have BK579:=n1_
      have BK580:=n2_
      have HB:=n3_
      have BK585:=n4_
      have GW585:=n5_
      have GE585:=n6_
      have NB578_585:=n7_
      have NB585_578:=n8_
      have NB579_585:=n9_
      have NB585_579:=n10_
      have NB580_585:=n11_
      have NB585_580:=n12_
      clear n0_ n1_ n2_ n3_ n4_ n5_ n6_ n7_ n8_ n9_ n10_ n11_ n12_
      clear hb hbox hg
      refine hK.out _ _ ⟨(blk_cell BK578.out 0).trans rfl,(blk_cell BK578.out 1).trans rfl,(blk_cell BK578.out 2).trans rfl,(blk_cell BK579.out 0).trans rfl,(blk_cell BK579.out 1).trans rfl,(blk_cell BK579.out 2).trans rfl⟩ (fun hHeld=>?_)
      clear hK K
      refine norm_ (a':=?_) ?_ ?_
      rotate_left
      ·show Act.put _ (some 7) _=_
       simp only [Act.put,yK,yL,yM,i64_w,i32_w]
       rfl
      refine one_ (i:=5) (N:=some 37) #[true,true,true,true,true,true,true,true,true,true,true,false,false,true,false] rfl rfl (one_of HT_.out (by kernel_rfl)) (by decide) (fun K hK=>?_)
      refine goes_ Try.func47 (by kernel_rfl) rfl #[.int .i64 a0_1,.int .i64 a1_1,.int .i64 (l1_0.length:Int)] (by rfl) rfl rfl (by (try simp only [List.map_toArray,List.map_cons,List.map_nil]);first|done|rfl|(simp only [List.length_drop,List.length_take];rfl)) ?_
      with_reducible refine (impl_pairs.calls kj2 a0_1 a1_1 (l1_0.length:Int) t583 _ A37.out).mono ?_
      rintro e w' ⟨rfl,⟨nd,rfl⟩⟩
      refine ⟨_,rfl,?_⟩
      refine hK.out _ _ ⟨(blk_cell BK578.out 0).trans rfl,(blk_cell BK578.out 1).trans rfl,(blk_cell BK578.out 2).trans rfl,(blk_cell BK579.out 0).trans rfl,(blk_cell BK579.out 1).trans rfl,(blk_cell BK579.out 2).trans rfl⟩ (fun hHeld=>?_)
      clear hK K
      refine norm_ (a':=?_) ?_ ?_
      rotate_left
      ·show Act.put _ (some 37) _=_
       simp only [Act.put,yK,yL,yM,i64_w,i32_w]
       rfl
      refine one_ (i:=11) (N:=some 43) #[true,true,true,true,true,true,true,true,true,true,true,true,false,true,false] rfl rfl (one_of HT_.out (by kernel_rfl)) (by decide) (fun K hK=>?_)
      refine goes_ Try.func47 (by kernel_rfl) rfl #[.int .i64 a0_2,.int .i64 a1_2,.int .i64 (l1_0.length:Int)] (by rfl) rfl rfl (by (try simp only [List.map_toArray,List.map_cons,List.map_nil]);first|done|rfl|(simp only [List.length_drop,List.length_take];rfl)) ?_
      with_reducible refine (impl_pairs.calls kj2 a0_2 a1_2 (l1_0.length:Int) t584 _ A38.out).mono ?_
      rintro e w' ⟨rfl,⟨nd,rfl⟩⟩
      refine ⟨_,rfl,?_⟩
      refine hK.out _ _ ⟨(blk_cell BK578.out 0).trans rfl,(blk_cell BK578.out 1).trans rfl,(blk_cell BK578.out 2).trans rfl,(blk_cell BK579.out 0).trans rfl,(blk_cell BK579.out 1).trans rfl,(blk_cell BK579.out 2).trans rfl⟩ (fun hHeld=>?_)
      clear hK K
      refine norm_ (a':=?_) ?_ ?_
      rotate_left
      ·show Act.put _ (some 43) _=_
       simp only [Act.put,yK,yL,yM,i64_w,i32_w]
       rfl
      refine pure_ (i:=12) (N:=some 44) (v:=?_) (a':=?_) #[true,true,true,true,true,true,true,true,true,true,true,true,true,true,false] rfl rfl (any_of HT_.out (by kernel_rfl)) (fun _ _ _ h=>h) (Or.inl ⟨by rfl,?_⟩) ?_ ?_
      rotate_left
      ·intro w'
       go_simp
       with_reducible rfl
      rotate_left
      ·simp only [Act.put,yK,yL,yM,i64_w,i32_w]
       rfl
      exact norm_ (by simp only [putAll,Act.put,yK,yL,yM]) (hCont (gb585) _ ⟨hHeld,(by (with_reducible repeat (first|refine yE ?_ _|refine yF ?_|refine yG ?_ _));exact BK578.out),(by (with_reducible repeat (first|refine yE ?_ _|refine yF ?_|refine yG ?_ _));exact BK579.out),(by (with_reducible repeat (first|refine yE ?_ _|refine yF ?_|refine yG ?_ _));exact BK580.out),(by (with_reducible repeat (first|refine yE ?_ _|refine yF ?_|refine yG ?_ _));exact BK585.out),GW585.out,GE585.out,NB578_585.out,NB585_578.out,NB579_585.out,NB585_579.out,NB580_585.out,NB585_580.out,(by repeat (first|(with_reducible first|exact HB.out|apply yA|apply yB|apply yC|refine yD ?_ GE578.out|refine yD ?_ GE579.out|refine yD ?_ GE580.out|refine yD ?_ GE585.out)|exact HB.out))⟩)
    rintro gb585 w41 ⟨hS_,h0_,h1_,h2_,h3_,h4_,h5_,h6_,h7_,h8_,h9_,h10_,h11_,h12_⟩
    have n0_:Aside0 (w41.heap[gb578]?=some (.cells #[.slice A0_0 l0_0.length c0_0,.int .i64 a0_1,.int .i64 a0_2] 31 (0,0))):=⟨h0_⟩
    have n1_:Aside0 (w41.heap[gb579]?=some (.cells #[.slice A1_0 l1_0.length c1_0,.int .i64 a1_1,.int .i64 a1_2] 31 (0,0))):=⟨h1_⟩
    have n2_:Aside0 (w41.heap[gb580]?=some (.cells #[.slice none 0 0,.int .i64 0,.int .i64 0] 31 (0,0))):=⟨h2_⟩
    have n3_:Aside0 (w41.heap[gb585]?=some (.cells #[.slice none 0 0,.int .i64 0,.int .i64 0] 31 (0,0))):=⟨h3_⟩
    have n4_:Aside0 (w.heap.size≤gb585):=⟨h4_⟩
    have n5_:Aside0 (w.heap.size≤gb585):=⟨h5_⟩
    have n6_:Aside0 (gb578≠gb585):=⟨h6_⟩
    have n7_:Aside0 (gb585≠gb578):=⟨h7_⟩
    have n8_:Aside0 (gb579≠gb585):=⟨h8_⟩
    have n9_:Aside0 (gb585≠gb579):=⟨h9_⟩
    have n10_:Aside0 (gb580≠gb585):=⟨h10_⟩
    have n11_:Aside0 (gb585≠gb580):=⟨h11_⟩
    have n12_:Aside0 (Below w.heap.size w w41):=⟨h12_⟩
    clear BK578
    clear BK579
    clear BK580
    clear HB
    clear h0_ h1_ h2_ h3_ h4_ h5_ h6_ h7_ h8_ h9_ h10_ h11_ h12_
    have BK578:=n0_
    have BK579:=n1_
    have BK580:=n2_
    have BK585:=n3_
    have GW585:=n4_
    have GE585:=n5_
    have NB578_585:=n6_
    have NB585_578:=n7_
    have NB579_585:=n8_
    have NB585_579:=n9_
    have NB580_585:=n10_
    have NB585_580:=n11_
    have HB:=n12_
    clear n0_ n1_ n2_ n3_ n4_ n5_ n6_ n7_ n8_ n9_ n10_ n11_ n12_
    have hHeld:w41.cell? ⟨gb578,0,none⟩=some (.slice A0_0 l0_0.length c0_0)∧w41.cell? ⟨gb578,1,none⟩=some (.int .i64 a0_1)∧w41.cell? ⟨gb578,2,none⟩=some (.int .i64 a0_2)∧w41.cell? ⟨gb579,0,none⟩=some (.slice A1_0 l1_0.length c1_0)∧w41.cell? ⟨gb579,1,none⟩=some (.int .i64 a1_1)∧w41.cell? ⟨gb579,2,none⟩=some (.int .i64 a1_2):=hS_
    refine norm_ (a':=?_) ?_ ?_
    rotate_left
    ·simp only [putAll,Act.put,yK,yL,yM]
     rfl
    refine one_ (i:=14) (N:=none) #[true,true,true,true,true,true,true,true,true,true,true,true,true,true,true] rfl rfl (one_of HT_.out (by kernel_rfl)) (by decide) (fun K hK=>?_)
    have hs42:w41.cell? ⟨gb585,0,none⟩=some (.slice none 0 0):=(blk_cell BK585.out 0).trans rfl
    have hfs42:=blk_frozen BK585.out 0
    have hns42_0:=NB578_585.out
    have hns42_1:=NB579_585.out
    have hns42_2:=NB580_585.out
    have hms42_0:=NB585_578.out
    have hms42_1:=NB585_579.out
    have hms42_2:=NB585_580.out
    have hs43:w41.cell? ⟨gb585,1,none⟩=some (.int .i64 0):=(blk_cell BK585.out 1).trans rfl
    have hfs43:=blk_frozen BK585.out 1
    have hns43_0:=NB578_585.out
    have hns43_1:=NB579_585.out
    have hns43_2:=NB580_585.out
    have hms43_0:=NB585_578.out
    have hms43_1:=NB585_579.out
    have hms43_2:=NB585_580.out
    have hs44:w41.cell? ⟨gb585,2,none⟩=some (.int .i64 0):=(blk_cell BK585.out 2).trans rfl
    have hfs44:=blk_frozen BK585.out 2
    have hns44_0:=NB578_585.out
    have hns44_1:=NB579_585.out
    have hns44_2:=NB580_585.out
    have hms44_0:=NB585_578.out
    have hms44_1:=NB585_579.out
    have hms44_2:=NB585_580.out
    refine skip_ (w1:=?_) (by rfl) rfl ?_ ?_
    rotate_left
    ·go_simp
     rfl
    refine hK.out _ _ ⟨((cell_far (p:=⟨gb585,_,none⟩) NB578_585.out _).trans (((cell_far (p:=⟨gb585,_,none⟩) NB578_585.out _).trans (((cell_far (p:=⟨gb585,_,none⟩) NB578_585.out _).trans (hHeld.1)))))),((cell_far (p:=⟨gb585,_,none⟩) NB578_585.out _).trans (((cell_far (p:=⟨gb585,_,none⟩) NB578_585.out _).trans (((cell_far (p:=⟨gb585,_,none⟩) NB578_585.out _).trans (hHeld.2.1)))))),((cell_far (p:=⟨gb585,_,none⟩) NB578_585.out _).trans (((cell_far (p:=⟨gb585,_,none⟩) NB578_585.out _).trans (((cell_far (p:=⟨gb585,_,none⟩) NB578_585.out _).trans (hHeld.2.2.1)))))),((cell_far (p:=⟨gb585,_,none⟩) NB579_585.out _).trans (((cell_far (p:=⟨gb585,_,none⟩) NB579_585.out _).trans (((cell_far (p:=⟨gb585,_,none⟩) NB579_585.out _).trans (hHeld.2.2.2.1)))))),((cell_far (p:=⟨gb585,_,none⟩) NB579_585.out _).trans (((cell_far (p:=⟨gb585,_,none⟩) NB579_585.out _).trans (((cell_far (p:=⟨gb585,_,none⟩) NB579_585.out _).trans (hHeld.2.2.2.2.1)))))),((cell_far (p:=⟨gb585,_,none⟩) NB579_585.out _).trans (((cell_far (p:=⟨gb585,_,none⟩) NB579_585.out _).trans (((cell_far (p:=⟨gb585,_,none⟩) NB579_585.out _).trans (hHeld.2.2.2.2.2))))))⟩ (fun hHeld=>?_)
    clear hK K
    refine done_ (done_of HT_.out (by kernel_rfl)) ?_
    have hnb45:=NB578_579.out
    have hnc45:=NB579_578.out
    have hnb46:=NB578_580.out
    have hnc46:=NB580_578.out
    have hnb47:=NB578_585.out
    have hnc47:=NB585_578.out
    have hcz48_0:w41.cell? ⟨gb578,0,none⟩=some (.slice A0_0 l0_0.length c0_0):=(blk_cell BK578.out 0).trans rfl
    have hcz48_1:w41.cell? ⟨gb578,1,none⟩=some (.int .i64 a0_1):=(blk_cell BK578.out 1).trans rfl
    have hcz48_2:w41.cell? ⟨gb578,2,none⟩=some (.int .i64 a0_2):=(blk_cell BK578.out 2).trans rfl
    have hfz48_0:=blk_frozen BK578.out 0
    have hfz48_1:=blk_frozen BK578.out 1
    have hfz48_2:=blk_frozen BK578.out 2
    try go_wp2
    go_loopg [48] kj2 (fun kq v48 w'=>∃ (x48_2:Int) (x586000_2:List Int) (u586000:Value),v48=.int .i64 x48_2∧Aside0 (impl_MachBoth.l0 kq (l1_0.length:Int) l0_0 (l0_0.length:Int) x48_2 l1_0 a1_1 a1_2 x586000_2 t583 t584=some (r1,r2,r3,r4))∧Aside0 (kq≤kj2)∧Aside0 (Kd.R (Kd.int .i64) 3 w' w.heap.size (fun _=>True) u586000 x586000_2)∧Aside0 (w'.heap[gb578]?=some (.cells #[(.slice A0_0 l0_0.length c0_0),.int .i64 a0_1,.int .i64 a0_2] 31 (0,0)))∧Aside0 (w'.heap[gb579]?=some (.cells #[(.slice A1_0 l1_0.length c1_0),.int .i64 a1_1,.int .i64 a1_2] 31 (0,0)))∧Aside0 (w'.heap[gb580]?=some (.cells #[(.slice none 0 0),.int .i64 0,.int .i64 0] 31 (0,0)))∧Aside0 (w'.heap[gb585]?=some (.cells #[u586000,.int .i64 t583,.int .i64 t584] 31 (0,0)))∧Aside0 (Below w.heap.size w w'))
    case atStart=>exact ⟨(0),(([]:List Int)),(.slice none 0 0),(by first|rfl|(simp;done)|(simp [*];done)|(simp [Int.tmod_eq_emod_of_nonneg];done)),H',⟨Nat.le_refl _⟩,⟨by first|exact Kd.R_nil _ _ _ _ _|exact Kd.N_nil _ _ _ _ _|exact Kd.V_nil _ _ _ _ _|exact Kd.Q_nil _ _ _ _ _|exact Kd.S_nil _ _ _ _ _⟩,⟨by (with_reducible repeat (first|refine yE ?_ _|refine yF ?_|refine yG ?_ _));refine blk_far ?_ NB578_585.out _;(with_reducible repeat (first|refine yE ?_ _|refine yF ?_|refine yG ?_ _));refine blk_far ?_ NB578_585.out _;(with_reducible repeat (first|refine yE ?_ _|refine yF ?_|refine yG ?_ _));refine blk_far ?_ NB578_585.out _;(with_reducible repeat (first|refine yE ?_ _|refine yF ?_|refine yG ?_ _));exact BK578.out⟩,⟨by (with_reducible repeat (first|refine yE ?_ _|refine yF ?_|refine yG ?_ _));refine blk_far ?_ NB579_585.out _;(with_reducible repeat (first|refine yE ?_ _|refine yF ?_|refine yG ?_ _));refine blk_far ?_ NB579_585.out _;(with_reducible repeat (first|refine yE ?_ _|refine yF ?_|refine yG ?_ _));refine blk_far ?_ NB579_585.out _;(with_reducible repeat (first|refine yE ?_ _|refine yF ?_|refine yG ?_ _));exact BK579.out⟩,⟨by (with_reducible repeat (first|refine yE ?_ _|refine yF ?_|refine yG ?_ _));refine blk_far ?_ NB580_585.out _;(with_reducible repeat (first|refine yE ?_ _|refine yF ?_|refine yG ?_ _));refine blk_far ?_ NB580_585.out _;(with_reducible repeat (first|refine yE ?_ _|refine yF ?_|refine yG ?_ _));refine blk_far ?_ NB580_585.out _;(with_reducible repeat (first|refine yE ?_ _|refine yF ?_|refine yG ?_ _));exact BK580.out⟩,⟨by (with_reducible repeat (first|refine yE ?_ _|refine yF ?_|refine yG ?_ _));refine blk_put (cs:=#[.slice none 0 0,.int .i64 t583,.int .i64 0]) ?_ 2 _ rfl;(with_reducible repeat (first|refine yE ?_ _|refine yF ?_|refine yG ?_ _));refine blk_put (cs:=#[.slice none 0 0,.int .i64 0,.int .i64 0]) ?_ 1 _ rfl;(with_reducible repeat (first|refine yE ?_ _|refine yF ?_|refine yG ?_ _));refine blk_put (cs:=#[.slice none 0 0,.int .i64 0,.int .i64 0]) ?_ 0 _ rfl;(with_reducible repeat (first|refine yE ?_ _|refine yF ?_|refine yG ?_ _));exact BK585.out⟩,⟨by repeat (first|(with_reducible first|exact HB.out|apply yA|apply yB|apply yC|refine yD ?_ GE578.out|refine yD ?_ GE579.out|refine yD ?_ GE580.out|refine yD ?_ GE585.out)|exact HB.out)⟩⟩
    case round =>
     clear H'
     try clear c1
     try clear c2
     try clear p2
     try clear c3
     try clear c4
     try clear p6
     try clear c7
     try clear c8
     try clear c11
     try clear c13
     try clear c14
     try clear c15
     try clear c18
     try clear c21
     try clear c22
     try clear c23
     try clear c26
     try clear c29
     try clear c30
     try clear c33
     try clear c34
     try clear c35
     try clear c40
     try clear c45
     try clear c46
     try clear c47
     try clear hcz16_0
     try clear hcz16_1
     try clear hcz16_2
     try clear hcz19_0
     try clear hcz19_1
     try clear hcz19_2
     try clear hcz21_0
     try clear hcz21_1
     try clear hcz21_2
     try clear hcz24_0
     try clear hcz24_1
     try clear hcz24_2
     try clear hcz27_0
     try clear hcz27_1
     try clear hcz27_2
     try clear hcz31_0
     try clear hcz31_1
     try clear hcz31_2
     try clear hcz36_0
     try clear hcz36_1
     try clear hcz36_2
     try clear hcz48_0
     try clear hcz48_1
     try clear hcz48_2
     try clear hcz9_0
     try clear hcz9_1
     try clear hcz9_2
     try clear hfz16_0
     try clear hfz16_1
     try clear hfz16_2
     try clear hfz19_0
     try clear hfz19_1
     try clear hfz19_2
     try clear hfz21_0
     try clear hfz21_1
     try clear hfz21_2
     try clear hfz24_0
     try clear hfz24_1
     try clear hfz24_2
     try clear hfz27_0
     try clear hfz27_1
     try clear hfz27_2
     try clear hfz31_0
     try clear hfz31_1
     try clear hfz31_2
     try clear hfz36_0
     try clear hfz36_1
     try clear hfz36_2
     try clear hfz48_0
     try clear hfz48_1
     try clear hfz48_2
     try clear hfz9_0
     try clear hfz9_1
     try clear hfz9_2
     try clear p2
     try clear p6
     obtain ⟨x48_2,x586000_2,u586000,rfl,HA,HK2,HO_586000,BK578,BK579,BK580,BK585,HB⟩:=hrel
     cases gk with
     | zero=>exact absurd HA.out (by simp [impl_MachBoth.l0])
     | succ k2 =>
      have H:=HA.out
      clear HA
      simp only [impl_MachBoth.l0] at H
      by_cases c49:x48_2<(l0_0.length:Int)
      ·rw [if_pos c49] at H
       have c49b0:decide (x48_2<(l0_0.length:Int))=true:=decide_eq_true c49
       clear c49
       by_cases c50:0≤x48_2
       ·rw [if_pos c50] at H
        have c50b0:decide (0≤x48_2)=true:=decide_eq_true c50
        clear c50
        by_cases c51:x48_2<(l0_0.length:Int)
        ·rw [if_pos c51] at H
         have c51b0:decide (x48_2<(l0_0.length:Int))=true:=decide_eq_true c51
         clear c51
         have H':=Aside0.mk H
         clear H
         have p586:0≤(x48_2:Int):=of_decide_eq_true (by first|(with_reducible assumption)|assumption)
         have q586:x48_2<(l0_0.length:Int):=of_decide_eq_true (by first|(with_reducible assumption)|assumption)
         obtain ⟨ad586,e586,hx586_0⟩:=Kd.at_int HR0_0.out x48_2 p586 q586
         cases e586
         replace hx586_0:=(HB.out.cell (World.block_lt_of_cell? w _ hx586_0)).trans hx586_0
         replace p586:=eq_true p586
         replace q586:=eq_true q586
         have hnb52:=NB579_578.out
         have hnc52:=NB578_579.out
         have hnb53:=NB579_580.out
         have hnc53:=NB580_579.out
         have hnb54:=NB579_585.out
         have hnc54:=NB585_579.out
         have hcz55_0:wr.cell? ⟨gb579,0,none⟩=some (.slice A1_0 l1_0.length c1_0):=(blk_cell BK579.out 0).trans rfl
         have hcz55_1:wr.cell? ⟨gb579,1,none⟩=some (.int .i64 a1_1):=(blk_cell BK579.out 1).trans rfl
         have hcz55_2:wr.cell? ⟨gb579,2,none⟩=some (.int .i64 a1_2):=(blk_cell BK579.out 2).trans rfl
         have hfz55_0:=blk_frozen BK579.out 0
         have hfz55_1:=blk_frozen BK579.out 1
         have hfz55_2:=blk_frozen BK579.out 2
         go_wp2
         go_loopg [55] k2 (fun kq v55 w'=>∃ (x55_3:Int) (x586000_3:List Int) (u586000:Value),v55=.int .i64 x55_3∧Aside0 (impl_MachBoth.l1 kq (l1_0.length:Int) (rd l0_0 x48_2) l0_0 (l0_0.length:Int) x48_2 l1_0 (l1_0.length:Int) x55_3 l1_0 a1_1 a1_2 x586000_3 t583 t584=some (r1,r2,r3,r4))∧Aside0 (kq≤k2)∧Aside0 (Kd.R (Kd.int .i64) 3 w' w.heap.size (fun _=>True) u586000 x586000_3)∧Aside0 (w'.heap[gb578]?=some (.cells #[(.slice (some ad586) l0_0.length c0_0),.int .i64 a0_1,.int .i64 a0_2] 31 (0,0)))∧Aside0 (w'.heap[gb579]?=some (.cells #[(.slice A1_0 l1_0.length c1_0),.int .i64 a1_1,.int .i64 a1_2] 31 (0,0)))∧Aside0 (w'.heap[gb580]?=some (.cells #[(.slice none 0 0),.int .i64 0,.int .i64 0] 31 (0,0)))∧Aside0 (w'.heap[gb585]?=some (.cells #[u586000,.int .i64 t583,.int .i64 t584] 31 (0,0)))∧Aside0 (Below w.heap.size w w'))
         case atStart=>exact ⟨(0),(x586000_2),(u586000),(by first|rfl|(simp;done)|(simp [*];done)|(simp [Int.tmod_eq_emod_of_nonneg];done)),H',⟨Nat.le_refl _⟩,⟨by (with_reducible repeat (first|apply yH|apply yI|apply yJ));exact HO_586000.out⟩,⟨by (with_reducible repeat (first|refine yE ?_ _|refine yF ?_|refine yG ?_ _));exact BK578.out⟩,⟨by (with_reducible repeat (first|refine yE ?_ _|refine yF ?_|refine yG ?_ _));exact BK579.out⟩,⟨by (with_reducible repeat (first|refine yE ?_ _|refine yF ?_|refine yG ?_ _));exact BK580.out⟩,⟨by (with_reducible repeat (first|refine yE ?_ _|refine yF ?_|refine yG ?_ _));exact BK585.out⟩,⟨by repeat (first|(with_reducible first|exact HB.out|apply yA|apply yB|apply yC|refine yD ?_ GE578.out|refine yD ?_ GE579.out|refine yD ?_ GE580.out|refine yD ?_ GE585.out)|exact HB.out)⟩⟩
         case round =>
          clear H'
          try clear c1
          try clear c2
          try clear p2
          try clear c3
          try clear c4
          try clear c5
          try clear p5
          try clear q5
          try clear hx5
          try clear p6
          try clear c7
          try clear c8
          try clear c11
          try clear c13
          try clear c14
          try clear c15
          try clear c18
          try clear c21
          try clear c22
          try clear c23
          try clear c26
          try clear c29
          try clear c30
          try clear c33
          try clear c34
          try clear c35
          try clear c40
          try clear c45
          try clear c46
          try clear c47
          try clear c49
          try clear c49b0
          try clear c50
          try clear c50b0
          try clear c51
          try clear c51b0
          try clear c52
          try clear c53
          try clear c54
          try clear hcz16_0
          try clear hcz16_1
          try clear hcz16_2
          try clear hcz19_0
          try clear hcz19_1
          try clear hcz19_2
          try clear hcz21_0
          try clear hcz21_1
          try clear hcz21_2
          try clear hcz24_0
          try clear hcz24_1
          try clear hcz24_2
          try clear hcz27_0
          try clear hcz27_1
          try clear hcz27_2
          try clear hcz31_0
          try clear hcz31_1
          try clear hcz31_2
          try clear hcz36_0
          try clear hcz36_1
          try clear hcz36_2
          try clear hcz48_0
          try clear hcz48_1
          try clear hcz48_2
          try clear hcz55_0
          try clear hcz55_1
          try clear hcz55_2
          try clear hcz9_0
          try clear hcz9_1
          try clear hcz9_2
          try clear hfz16_0
          try clear hfz16_1
          try clear hfz16_2
          try clear hfz19_0
          try clear hfz19_1
          try clear hfz19_2
          try clear hfz21_0
          try clear hfz21_1
          try clear hfz21_2
          try clear hfz24_0
          try clear hfz24_1
          try clear hfz24_2
          try clear hfz27_0
          try clear hfz27_1
          try clear hfz27_2
          try clear hfz31_0
          try clear hfz31_1
          try clear hfz31_2
          try clear hfz36_0
          try clear hfz36_1
          try clear hfz36_2
          try clear hfz48_0
          try clear hfz48_1
          try clear hfz48_2
          try clear hfz55_0
          try clear hfz55_1
          try clear hfz55_2
          try clear hfz9_0
          try clear hfz9_1
          try clear hfz9_2
          try clear hx586_0
          try clear p2
          try clear p586
          try clear p6
          try clear q586
          obtain ⟨x55_3,x586000_3,u586000,rfl,HA,HK3,HO_586000,BK578,BK579,BK580,BK585,HB⟩:=hrel
          cases gk with
          | zero=>exact absurd HA.out (by simp [impl_MachBoth.l1])
          | succ k3 =>
           have H:=HA.out
           clear HA
           simp only [impl_MachBoth.l1] at H
           by_cases c56:x55_3<(l1_0.length:Int)
           ·rw [if_pos c56] at H
            have c56b0:decide (x55_3<(l1_0.length:Int))=true:=decide_eq_true c56
            clear c56
            by_cases c57:0≤x55_3
            ·rw [if_pos c57] at H
             have c57b0:decide (0≤x55_3)=true:=decide_eq_true c57
             clear c57
             by_cases c58:x55_3<(l1_0.length:Int)
             ·rw [if_pos c58] at H
              have c58b0:decide (x55_3<(l1_0.length:Int))=true:=decide_eq_true c58
              clear c58
              replace H:=Option.bind_eq_some_iff.mp H
              obtain ⟨t588,A590,H⟩:=H
              replace H:(if x586000_3.length<17592186044416 then (impl_MachBoth.l1 k3 (l1_0.length:Int) (rd l0_0 x48_2) l0_0 (l0_0.length:Int) x48_2 l1_0 (l1_0.length:Int) (wrap64 (x55_3+1)) l1_0 a1_1 a1_2 (x586000_3++[t588]) t583 t584) else (none))=some (r1,r2,r3,r4):=H
              have A59:=Aside0.mk A590
              clear A590
              by_cases c60:x586000_3.length<17592186044416
              ·rw [if_pos c60] at H
               have LMc60:=Aside0.mk c60
               clear c60
               obtain ⟨y589,hy589⟩:∃ y_:List Int,y_=(x586000_3++[t588]):=⟨_,rfl⟩
               replace H:(impl_MachBoth.l1 k3 (l1_0.length:Int) (rd l0_0 x48_2) l0_0 (l0_0.length:Int) x48_2 l1_0 (l1_0.length:Int) (wrap64 (x55_3+1)) l1_0 a1_1 a1_2 y589 t583 t584)=some (r1,r2,r3,r4):=by first|(rw [hy589];with_reducible exact H)|(have H2_:=(Option.bind_some _ _).symm.trans H;rw [hy589];with_reducible exact H2_)|(have H2_:=(Option.bind_some _ _).symm.trans H;with_reducible exact H2_)|with_reducible exact H|(rw [hy589];exact H)|exact H
               have Ny589:=Aside0.mk hy589
               clear hy589
               have H':=Aside0.mk H
               clear H
               have p587:0≤(x55_3:Int):=of_decide_eq_true (by first|(with_reducible assumption)|assumption)
               have q587:x55_3<(l1_0.length:Int):=of_decide_eq_true (by first|(with_reducible assumption)|assumption)
               obtain ⟨ad587,e587,hx587_0⟩:=Kd.at_int HR1_0.out x55_3 p587 q587
               cases e587
               replace hx587_0:=(HB.out.cell (World.block_lt_of_cell? w _ hx587_0)).trans hx587_0
               replace p587:=eq_true p587
               replace q587:=eq_true q587
               try go_wp2
               have n0_:=Aside0.mk (yJ HO_586000.out)
               have n1_:=Aside0.mk (yF BK578.out)
               have n2_:=Aside0.mk (yF BK579.out)
               have n3_:=Aside0.mk (yF BK580.out)
               have n4_:=Aside0.mk (yF BK585.out)
               have n5_:=Aside0.mk (yC HB.out)
               clear HO_586000
               clear BK578
               clear BK579
               clear BK580
               clear BK585
               clear HB
               have HO_586000:=n0_
               have BK578:=n1_
               have BK579:=n2_
               have BK580:=n3_
               have BK585:=n4_
               have HB:=n5_
               clear n0_ n1_ n2_ n3_ n4_ n5_
               refine start_ (n:=10) (S:=fun w'=>w'.cell? ⟨gb585,0,none⟩=some (u586000)∧w'.cell? ⟨gb585,1,none⟩=some (.int .i64 t583)∧w'.cell? ⟨gb585,2,none⟩=some (.int .i64 t584)) (ds:=[9]) #[false,false,false,false,false,false,false,false,false,false] (by kernel_rfl) rfl rfl ⟨(blk_cell BK585.out 0).trans rfl,(blk_cell BK585.out 1).trans rfl,(blk_cell BK585.out 2).trans rfl⟩ (fun hHeld=>?_);refine with_tabW impl_MachBoth.tab11 impl_MachBoth.bits11 (fun HT_ HW_=>?_)
               generalize wr.drew=w61 at HO_586000 BK578 BK579 BK580 BK585 HB hHeld ⊢
               refine pure_ (i:=0) (N:=some 59) (v:=?_) (a':=?_) #[true,false,false,false,false,false,false,false,false,false] rfl rfl (any_of HT_.out (by kernel_rfl)) (fun _ _ _ h=>h) (Or.inl ⟨by rfl,?_⟩) ?_ ?_
               rotate_left
               ·intro w'
                go_simp
                with_reducible rfl
               rotate_left
               ·simp only [Act.put,yK,yL,yM,i64_w,i32_w]
                rfl
               refine pure_ (i:=2) (N:=some 61) (v:=?_) (a':=?_) #[true,false,true,false,false,false,false,false,false,false] rfl rfl (any_of HT_.out (by kernel_rfl)) (fun _ _ _ h=>h) (Or.inl ⟨by rfl,?_⟩) ?_ ?_
               rotate_left
               ·intro w'
                go_simp
                with_reducible rfl
               rotate_left
               ·simp only [Act.put,yK,yL,yM,i64_w,i32_w]
                rfl
               refine pure_ (i:=3) (N:=some 62) (v:=?_) (a':=?_) #[true,false,true,true,false,false,false,false,false,false] rfl rfl (any_of HT_.out (by kernel_rfl)) (fun _ _ _ h=>h) (Or.inl ⟨by rfl,?_⟩) ?_ ?_
               rotate_left
               ·intro w'
                go_simp
                with_reducible rfl
               rotate_left
               ·simp only [Act.put,yK,yL,yM,i64_w,i32_w]
                rfl
               refine pure_ (i:=4) (N:=some 63) (v:=?_) (a':=?_) #[true,false,true,true,true,false,false,false,false,false] rfl rfl (any_of HT_.out (by kernel_rfl)) (fun _ _ _ h=>h) (Or.inl ⟨by rfl,?_⟩) ?_ ?_
               rotate_left
               ·intro w'
                go_simp
                with_reducible rfl
               rotate_left
               ·simp only [Act.put,yK,yL,yM,i64_w,i32_w]
                rfl
               refine take_ (i:=1) (N:=some 60) (v:=?_) (a':=?_) #[true,true,true,true,true,false,false,false,false,false] rfl rfl (take_ofW HT_.out HW_.out (by kernel_rfl)) (fun _ _ _ h=>h) (Or.inl ⟨by rfl,?_⟩) hHeld ?_ ?_
               rotate_left
               ·rintro w' ⟨s0,s1,s2⟩
                go_simp
                with_reducible rfl
               rotate_left
               ·simp only [Act.put,yK,yL,yM,i64_w,i32_w]
                rfl
               refine one_ (i:=5) (N:=some 64) #[true,true,true,true,true,true,false,false,false,false] rfl rfl (one_of HT_.out (by kernel_rfl)) (by decide) (fun K hK=>?_)
               refine goes_ Try.func47 (by kernel_rfl) rfl #[.int .i64 (rd l0_0 x48_2),.int .i64 (rd l1_0 x55_3),.int .i64 (l1_0.length:Int)] (by rfl) rfl rfl (by (try simp only [List.map_toArray,List.map_cons,List.map_nil]);first|done|rfl|(simp only [List.length_drop,List.length_take];rfl)) ?_
               with_reducible refine (impl_pairs.calls k3 (rd l0_0 x48_2) (rd l1_0 x55_3) (l1_0.length:Int) t588 _ A59.out).mono ?_
               rintro e w' ⟨rfl,⟨nd,rfl⟩⟩
               refine ⟨_,rfl,?_⟩
               refine hK.out _ _ ⟨(blk_cell BK585.out 0).trans rfl,(blk_cell BK585.out 1).trans rfl,(blk_cell BK585.out 2).trans rfl⟩ (fun hHeld=>?_)
               clear hK K
               refine norm_ (a':=?_) ?_ ?_
               rotate_left
               ·show Act.put _ (some 64) _=_
                simp only [Act.put,yK,yL,yM,i64_w,i32_w]
                rfl
               refine one_ (i:=6) (N:=some 65) #[true,true,true,true,true,true,true,false,false,false] rfl rfl (one_of HT_.out (by kernel_rfl)) (by decide) (fun K hK=>?_)
               refine value_ (w1:=?_) (v:=?_) (by rfl) rfl ?_ ?_
               rotate_left 2
               ·go_simp
                constructor
                ·rfl
                ·rfl
               refine hK.out _ _ ⟨(blk_cell (yG BK585.out _) 0).trans rfl,(blk_cell (yG BK585.out _) 1).trans rfl,(blk_cell (yG BK585.out _) 2).trans rfl⟩ (fun hHeld=>?_)
               clear hK K
               refine norm_ (a':=?_) ?_ ?_
               rotate_left
               ·show Act.put _ (some 65) _=_
                simp only [Act.put,yK,yL,yM,i64_w,i32_w]
                rfl
               refine one_ (i:=7) (N:=some 66) #[true,true,true,true,true,true,true,true,false,false] rfl rfl (one_of HT_.out (by kernel_rfl)) (by decide) (fun K hK=>?_)
               refine Kd.R_append_step (Kd.int .i64) (w0:=w) w.heap.size (by rfl) (.tmp 60) (.tmp 65) 29 3 (.int .i64 0) 8 rfl Try.underlying29 info3 rfl (by decide) (by omega) u586000 x586000_3 t588 [.int .i64 t588] (fun _=>True) (fun _=>False) rfl rfl ?aP (fun _ hk=>hk.elim) ?aF ?aO ?aB ?aS ?aL ?_
               (case aP=>exact rfl)
               (case aB=>exact (by repeat (first|(with_reducible first|exact HB.out|apply yA|apply yB|apply yC|refine yD ?_ GE578.out|refine yD ?_ GE579.out|refine yD ?_ GE580.out|refine yD ?_ GE585.out)|exact HB.out)))
               (case aF=>exact (fun _ _=>trivial))
               (case aO=>exact (by (with_reducible repeat (first|apply yH|apply yI|apply yJ));exact HO_586000.out))
               (case aS=>exact (yQ (by repeat (first|(with_reducible first|exact HB.out|apply yA|apply yB|apply yC|refine yD ?_ GE578.out|refine yD ?_ GE579.out|refine yD ?_ GE580.out|refine yD ?_ GE585.out)|exact HB.out))))
               (case aL=>have:=LMc60.out;omega)
               intro v590 w62 ho hb hg hat
               rw [← Ny589.out] at ho
               have n0_:=Aside0.mk (blk_grown (g:=gb578) (o:=.cells #[.slice (some ad586) l0_0.length c0_0,.int .i64 a0_1,.int .i64 a0_2] 31 (0,0)) (by (with_reducible repeat (first|refine yE ?_ _|refine yF ?_|refine yG ?_ _));exact BK578.out) hg (Kd.R_ne HO_586000.out BK578.out (by decide)))
               have n1_:=Aside0.mk (blk_grown (g:=gb579) (o:=.cells #[.slice (some ad587) l1_0.length c1_0,.int .i64 a1_1,.int .i64 a1_2] 31 (0,0)) (by (with_reducible repeat (first|refine yE ?_ _|refine yF ?_|refine yG ?_ _));exact BK579.out) hg (Kd.R_ne HO_586000.out BK579.out (by decide)))
               have n2_:=Aside0.mk (blk_grown (g:=gb580) (o:=.cells #[.slice none 0 0,.int .i64 0,.int .i64 0] 31 (0,0)) (by (with_reducible repeat (first|refine yE ?_ _|refine yF ?_|refine yG ?_ _));exact BK580.out) hg (Kd.R_ne HO_586000.out BK580.out (by decide)))
               have n3_:=Aside0.mk (blk_grown (g:=gb585) (o:=.cells #[u586000,.int .i64 t583,.int .i64 t584] 31 (0,0)) (by (with_reducible repeat (first|refine yE ?_ _|refine yF ?_|refine yG ?_ _));exact BK585.out) hg (Kd.R_ne HO_586000.out BK585.out (by decide)))
               have n4_:=Aside0.mk (hb)
               have n5_:=Aside0.mk (ho)
               clear BK578
               clear BK579
               clear BK580
               clear BK585
               clear HB
               clear HO_586000
               have BK578:=n0_
               have BK579:=n1_
               have BK580:=n2_
               have BK585:=n3_
               have HB:=n4_
               have HO591:=n5_
               clear n0_ n1_ n2_ n3_ n4_ n5_
               clear ho hb hg hat
               obtain ⟨Ao63,co63,eo63⟩:=Kd.R_slice HO591.out
               (first|subst eo63|(injection eo63 with f1_ f2_ f3_;have f4_:=f1_.symm;have f5_:=f3_.symm;clear f1_ f2_ f3_;subst f4_;subst f5_))
               refine hK.out _ _ ⟨(blk_cell BK585.out 0).trans rfl,(blk_cell BK585.out 1).trans rfl,(blk_cell BK585.out 2).trans rfl⟩ (fun hHeld=>?_)
               clear hK K
               refine norm_ (a':=?_) ?_ ?_
               rotate_left
               ·show Act.put _ (some 66) _=_
                simp only [Act.put,yK,yL,yM,i64_w,i32_w]
                rfl
               refine pure_ (i:=8) (N:=some 67) (v:=?_) (a':=?_) #[true,true,true,true,true,true,true,true,true,false] rfl rfl (any_of HT_.out (by kernel_rfl)) (fun _ _ _ h=>h) (Or.inl ⟨by rfl,?_⟩) ?_ ?_
               rotate_left
               ·intro w'
                go_simp
                with_reducible rfl
               rotate_left
               ·simp only [Act.put,yK,yL,yM,i64_w,i32_w]
                rfl
               refine last_ (i:=9) (N:=none) #[true,true,true,true,true,true,true,true,true,true] rfl rfl (one_of HT_.out (by kernel_rfl)) (by decide) (fun K hK=>?_)
               have hs64:w62.cell? ⟨gb585,0,none⟩=some (u586000):=(blk_cell BK585.out 0).trans rfl
               have hfs64:=blk_frozen BK585.out 0
               have hns64_0:=NB578_585.out
               have hns64_1:=NB579_585.out
               have hns64_2:=NB580_585.out
               have hms64_0:=NB585_578.out
               have hms64_1:=NB585_579.out
               have hms64_2:=NB585_580.out
               refine skip_ (w1:=?_) (by rfl) rfl ?_ ?_
               rotate_left
               ·go_simp
                rfl
               refine hK.out _ _ ?_
               clear hK K
               refine done_ (done_of HT_.out (by kernel_rfl)) ?_
               try go_wp2
               go_roundg k3
               case measure=>have:=HJ2.out;have:=HK2.out;have:=HK3.out;omega
               case rel=>exact ⟨(wrap64 (x55_3+1)),(y589),(.slice Ao63 y589.length co63),(by first|rfl|(simp;done)|(simp [*];done)|(simp [Int.tmod_eq_emod_of_nonneg];done)),H',⟨by have:=HJ2.out;have:=HK2.out;have:=HK3.out;omega⟩,⟨by (with_reducible repeat (first|apply yH|apply yI|apply yJ));exact Kd.R_mono (Kd.R_far (p:=⟨gb585,0,none⟩) (Kd.R_types HO591.out BK585.out (by decide)) (fun _ hk=>hk.2) (.slice Ao63 y589.length co63)) (fun _ hk=>trivial)⟩,⟨by (with_reducible repeat (first|refine yE ?_ _|refine yF ?_|refine yG ?_ _));refine blk_far ?_ NB578_585.out _;(with_reducible repeat (first|refine yE ?_ _|refine yF ?_|refine yG ?_ _));exact BK578.out⟩,⟨by (with_reducible repeat (first|refine yE ?_ _|refine yF ?_|refine yG ?_ _));refine blk_far ?_ NB579_585.out _;(with_reducible repeat (first|refine yE ?_ _|refine yF ?_|refine yG ?_ _));exact BK579.out⟩,⟨by (with_reducible repeat (first|refine yE ?_ _|refine yF ?_|refine yG ?_ _));refine blk_far ?_ NB580_585.out _;(with_reducible repeat (first|refine yE ?_ _|refine yF ?_|refine yG ?_ _));exact BK580.out⟩,⟨by (with_reducible repeat (first|refine yE ?_ _|refine yF ?_|refine yG ?_ _));refine blk_put (cs:=#[u586000,.int .i64 t583,.int .i64 t584]) ?_ 0 _ rfl;(with_reducible repeat (first|refine yE ?_ _|refine yF ?_|refine yG ?_ _));exact BK585.out⟩,⟨by repeat (first|(with_reducible first|exact HB.out|apply yA|apply yB|apply yC|refine yD ?_ GE578.out|refine yD ?_ GE579.out|refine yD ?_ GE580.out|refine yD ?_ GE585.out)|exact HB.out)⟩⟩
              ·rw [if_neg c60] at H
               exact absurd H (by simp)
             ·rw [if_neg c58] at H
              exact absurd H (by simp)
            ·rw [if_neg c57] at H
             exact absurd H (by simp)
           ·rw [if_neg c56] at H
            have c56b0:decide (x55_3<(l1_0.length:Int))=false:=decide_eq_false c56
            clear c56
            have H':=Aside0.mk H
            clear H
            go_wp2
            go_roundg k3
            case measure=>have:=HJ2.out;have:=HK2.out;have:=HK3.out;omega
            case rel=>exact ⟨(wrap64 (x48_2+1)),(x586000_3),(u586000),(by first|rfl|(simp;done)|(simp [*];done)|(simp [Int.tmod_eq_emod_of_nonneg];done)),H',⟨by have:=HJ2.out;have:=HK2.out;have:=HK3.out;omega⟩,⟨by (with_reducible repeat (first|apply yH|apply yI|apply yJ));exact HO_586000.out⟩,⟨by (with_reducible repeat (first|refine yE ?_ _|refine yF ?_|refine yG ?_ _));exact BK578.out⟩,⟨by (with_reducible repeat (first|refine yE ?_ _|refine yF ?_|refine yG ?_ _));exact BK579.out⟩,⟨by (with_reducible repeat (first|refine yE ?_ _|refine yF ?_|refine yG ?_ _));exact BK580.out⟩,⟨by (with_reducible repeat (first|refine yE ?_ _|refine yF ?_|refine yG ?_ _));exact BK585.out⟩,⟨by repeat (first|(with_reducible first|exact HB.out|apply yA|apply yB|apply yC|refine yD ?_ GE578.out|refine yD ?_ GE579.out|refine yD ?_ GE580.out|refine yD ?_ GE585.out)|exact HB.out)⟩⟩
        ·rw [if_neg c51] at H
         exact absurd H (by simp)
       ·rw [if_neg c50] at H
        exact absurd H (by simp)
      ·rw [if_neg c49] at H
       have c49b0:decide (x48_2<(l0_0.length:Int))=false:=decide_eq_false c49
       clear c49
       simp only [Option.some.injEq,Prod.mk.injEq] at H
       obtain ⟨rfl,rfl,rfl,rfl⟩:=H
       have hnb65:=NB585_578.out
       have hnc65:=NB578_585.out
       have hnb66:=NB585_579.out
       have hnc66:=NB579_585.out
       have hnb67:=NB585_580.out
       have hnc67:=NB580_585.out
       have hcz68_0:wr.cell? ⟨gb585,0,none⟩=some (u586000):=(blk_cell BK585.out 0).trans rfl
       have hcz68_1:wr.cell? ⟨gb585,1,none⟩=some (.int .i64 t583):=(blk_cell BK585.out 1).trans rfl
       have hcz68_2:wr.cell? ⟨gb585,2,none⟩=some (.int .i64 t584):=(blk_cell BK585.out 2).trans rfl
       have hfz68_0:=blk_frozen BK585.out 0
       have hfz68_1:=blk_frozen BK585.out 1
       have hfz68_2:=blk_frozen BK585.out 2
       obtain ⟨Ao69,co69,eo69⟩:=Kd.R_slice HO_586000.out
       subst eo69
       have hnb70:=NB580_578.out
       have hnc70:=NB578_580.out
       have hnb71:=NB580_579.out
       have hnc71:=NB579_580.out
       have hcz72_0:wr.cell? ⟨gb580,0,none⟩=some (.slice none 0 0):=(blk_cell BK580.out 0).trans rfl
       have hcz72_1:wr.cell? ⟨gb580,1,none⟩=some (.int .i64 0):=(blk_cell BK580.out 1).trans rfl
       have hcz72_2:wr.cell? ⟨gb580,2,none⟩=some (.int .i64 0):=(blk_cell BK580.out 2).trans rfl
       have hfz72_0:=blk_frozen BK580.out 0
       have hfz72_1:=blk_frozen BK580.out 1
       have hfz72_2:=blk_frozen BK580.out 2
       go_wp2
       refine bodyPost_ret (results_ct rfl _ _ gb580 31 #[.slice Ao69 x586000_2.length co69,.int .i64 t583,.int .i64 t584] (0,0) _ rfl (by (with_reducible repeat (first|refine yE ?_ _|refine yF ?_|refine yG ?_ _));refine blk_put (cs:=#[.slice Ao69 x586000_2.length co69,.int .i64 t583,.int .i64 0]) ?_ 2 _ rfl;(with_reducible repeat (first|refine yE ?_ _|refine yF ?_|refine yG ?_ _));refine blk_put (cs:=#[.slice Ao69 x586000_2.length co69,.int .i64 0,.int .i64 0]) ?_ 1 _ rfl;(with_reducible repeat (first|refine yE ?_ _|refine yF ?_|refine yG ?_ _));refine blk_put (cs:=#[.slice none 0 0,.int .i64 0,.int .i64 0]) ?_ 0 _ rfl;(with_reducible repeat (first|refine yE ?_ _|refine yF ?_|refine yG ?_ _));exact BK580.out) Try.underlying31 rfl (by kernel_rfl)) rfl ?_
       exact ⟨_,by first|rfl|(simp [errW_none,errW_some]<;>rfl)|(simp [*,errW_none,errW_some]<;>rfl)|(simp [errW_none,errW_some];exact ⟨rfl,rfl⟩),by (with_reducible repeat (first|apply yH|apply yI|apply yJ));exact Kd.R_mono (Kd.R_far (p:=⟨gb580,2,none⟩) (Kd.R_far (p:=⟨gb580,1,none⟩) (Kd.R_far (p:=⟨gb580,0,none⟩) (Kd.R_types HO_586000.out BK580.out (by decide)) (fun _ hk=>hk.2) (.slice Ao69 x586000_2.length co69)) (fun _ hk=>hk.2) (.int .i64 t583)) (fun _ hk=>hk.2) (.int .i64 t584)) (fun _ hk=>trivial),by repeat (first|(with_reducible first|exact HB.out|apply yA|apply yB|apply yC|refine yD ?_ GE578.out|refine yD ?_ GE579.out|refine yD ?_ GE580.out|refine yD ?_ GE585.out)|exact HB.out)⟩

end Go.Proofs.Ytneadgionjlicaa.P

-- slices.Index and slices.Contains over lists of numbers.
namespace Go.Proofs.Ytneadgionjlicaa.P
open Go.RowKit Go.Proofs.YtneadgionjlicaaW.PrintWords Go.Proofs.YtneadgionjlicaaW.PrintLast Go.Proofs.YtneadgionjlicaaW.PrintMore
set_option linter.unusedVariables false
set_option linter.unusedSimpArgs false

theorem idx_at (l : List Int) (hl : l.length ≤ 1000000) (x : Int) (F : Nat) (hF : F < l.length) (h : rd l (F : Int) = x) (hno : ∀ j : Nat, j < F → rd l (j : Int) ≠ x) : ∀ (d i : Nat), i ≤ F → F - i = d → Ev (fun k => slices_Index_int_int.l0 k l x l.length i) (F : Int) := by
  intro d
  induction d with
  | zero =>
    intro i hi hd
    have e : i = F := by omega
    subst e
    refine Ev.step (f := fun k => some (i : Int)) (fun k => ?_) (Ev.now _)
    simp only [slices_Index_int_int.l0]
    rw [if_pos (by omega), if_pos (by omega), if_pos (by omega), if_pos h.symm]
  | succ d ih =>
    intro i hi hd
    refine Ev.step (fun k => ?_) (ih (i + 1) (by omega) (by omega))
    simp only [slices_Index_int_int.l0]
    rw [if_pos (by omega), if_pos (by omega), if_pos (by omega), if_neg (fun e => hno i (by omega) e.symm), wsucc (by omega)]
theorem idx_no (l : List Int) (hl : l.length ≤ 1000000) (x : Int) (hno : ∀ j : Nat, j < l.length → rd l (j : Int) ≠ x) : ∀ (d i : Nat), i ≤ l.length → l.length - i = d → Ev (fun k => slices_Index_int_int.l0 k l x l.length i) (-1) := by
  intro d
  induction d with
  | zero =>
    intro i hi hd
    refine Ev.step (f := fun k => some (-1 : Int)) (fun k => ?_) (Ev.now _)
    simp only [slices_Index_int_int.l0]; rw [if_neg (by omega)]
  | succ d ih =>
    intro i hi hd
    refine Ev.step (fun k => ?_) (ih (i + 1) (by omega) (by omega))
    simp only [slices_Index_int_int.l0]
    rw [if_pos (by omega), if_pos (by omega), if_pos (by omega), if_neg (fun e => hno i (by omega) e.symm), wsucc (by omega)]
theorem index_at (l : List Int) (hl : l.length ≤ 1000000) (x : Int) (F : Nat) (hF : F < l.length) (h : rd l (F : Int) = x) (hno : ∀ j : Nat, j < F → rd l (j : Int) ≠ x) : Ev (fun k => slices_Index_int_int.f k l x) (F : Int) :=
  idx_at l hl x F hF h hno _ 0 (Nat.zero_le _) rfl
theorem cont_yes (l : List Int) (hl : l.length ≤ 1000000) (x : Int) (F : Nat) (hF : F < l.length) (h : rd l (F : Int) = x) (hno : ∀ j : Nat, j < F → rd l (j : Int) ≠ x) : Ev (fun k => slices_Contains_int_int.f k l x) true := by
  have := Ev.bind (f := fun k t => some (decide (t ≥ 0))) (index_at l hl x F hF h hno) (by rw [decide_eq_true (by omega : (F : Int) ≥ 0)]; exact Ev.now _)
  exact Ev.congr (fun k => rfl) this
theorem cont_no (l : List Int) (hl : l.length ≤ 1000000) (x : Int) (hno : ∀ j : Nat, j < l.length → rd l (j : Int) ≠ x) : Ev (fun k => slices_Contains_int_int.f k l x) false := by
  have h := idx_no l hl x hno _ 0 (Nat.zero_le _) rfl
  exact Ev.congr (fun k => rfl) (Ev.bind (f := fun k t => some (decide (t ≥ 0))) h (Ev.now _))
end Go.Proofs.Ytneadgionjlicaa.P

-- spec.l6In: a number in a range.
namespace Go.Proofs.Ytneadgionjlicaa.P
open Go.RowKit Go.Proofs.YtneadgionjlicaaW.PrintWords Go.Proofs.YtneadgionjlicaaW.PrintLast Go.Proofs.YtneadgionjlicaaW.PrintMore
set_option linter.unusedVariables false
set_option linter.unusedSimpArgs false

theorem l6in_f (a b c : Int) : spec_l6In.f a b c = some (decide (b ≤ a ∧ a ≤ c)) := by
  unfold spec_l6In.f
  by_cases h : a ≥ b
  · rw [if_pos h]; congr 1; apply decide_eq_decide.2; omega
  · rw [if_neg h]; congr 1; symm; rw [decide_eq_false_iff_not]; omega

end Go.Proofs.Ytneadgionjlicaa.P

-- spec.MachIn: whether a machine is one.
namespace Go.Proofs.Ytneadgionjlicaa.P
open Go.RowKit Go.Proofs.YtneadgionjlicaaW.PrintWords Go.Proofs.YtneadgionjlicaaW.PrintLast Go.Proofs.YtneadgionjlicaaW.PrintMore
set_option linter.unusedVariables false
set_option linter.unusedSimpArgs false

theorem mall_val {n : Nat} (h : 1 ≤ n ∧ n ≤ 5) : wrap64 (shl .i64 1 (n : Int) - 1) = mall n := by
  rcases (show n = 1 ∨ n = 2 ∨ n = 3 ∨ n = 4 ∨ n = 5 by omega) with h | h | h | h | h <;> rw [h] <;> decide +kernel
theorem l6MachIn_no (l : List Int) (st en : Int) (hl : l.length ≤ 1000000000000) (hn : ¬ (1 ≤ l.length ∧ l.length ≤ 5)) : ∀ (d i : Nat), i ≤ l.length → l.length - i = d → Ev (fun k => spec_MachIn.l0 k l.length i l st en) false := by
  intro d
  induction d with
  | zero =>
    intro i hi hd
    refine Ev.step (f := fun k => some false) (fun k => ?_) (Ev.now _)
    simp only [spec_MachIn.l0]
    rw [if_neg (by omega), l6in_f, decide_eq_false (by omega), Option.bind_some, if_neg (by decide)]
  | succ d ih =>
    intro i hi hd
    cases hb : decide (0 ≤ rd l (i : Int) ∧ rd l (i : Int) ≤ wrap64 (shl .i64 1 (l.length : Int) - 1)) with
    | true =>
      refine Ev.step (fun k => ?_) (ih (i + 1) (by omega) (by omega))
      simp only [spec_MachIn.l0]
      rw [if_pos (by omega), if_pos (by omega), if_pos (by omega), if_pos (by omega), l6in_f, hb, Option.bind_some, if_pos rfl, wsucc (by omega)]
    | false =>
      refine Ev.step (f := fun k => some false) (fun k => ?_) (Ev.now _)
      simp only [spec_MachIn.l0]
      rw [if_pos (by omega), if_pos (by omega), if_pos (by omega), if_pos (by omega), l6in_f, hb, Option.bind_some, if_neg (by decide)]
theorem l6MachIn_yes (l : List Int) (st en : Int) (hn : 1 ≤ l.length ∧ l.length ≤ 5) : ∀ (d i : Nat), i ≤ l.length → l.length - i = d → (∀ j : Nat, j < i → decide (0 ≤ rd l (j : Int) ∧ rd l (j : Int) ≤ mall l.length) = true) → Ev (fun k => spec_MachIn.l0 k l.length i l st en) (mok l st en) := by
  have hv := mall_val hn
  intro d
  induction d with
  | zero =>
    intro i hi hd hf
    have e : i = l.length := by omega
    subst e
    have hany : anyI l (fun x => !decide (0 ≤ x ∧ x ≤ mall l.length)) = false := by
      unfold anyI
      refine dec_false ?_
      rintro ⟨j, h1, h2⟩
      have h2 : (!decide (0 ≤ rd l (j : Int) ∧ rd l (j : Int) ≤ mall l.length)) = true := h2
      rw [hf j h1] at h2; cases h2
    have e : mok l st en = (decide (0 ≤ st ∧ st ≤ mall l.length) && decide (0 ≤ en ∧ en ≤ mall l.length)) := by unfold mok; rw [hany, decide_eq_true hn]; rfl
    rw [e]
    cases h1 : decide (0 ≤ st ∧ st ≤ mall l.length) with
    | false =>
      refine Ev.step (f := fun k => some false) (fun k => ?_) (Ev.now _)
      simp only [spec_MachIn.l0]
      rw [if_neg (by omega), l6in_f, decide_eq_true (by omega), Option.bind_some, if_pos rfl, if_pos (by omega), hv, l6in_f, h1, Option.bind_some, if_neg (by decide)]
    | true =>
      refine Ev.step (f := fun k => some (decide (0 ≤ en ∧ en ≤ mall l.length))) (fun k => ?_) (Ev.now _)
      simp only [spec_MachIn.l0]
      rw [if_neg (by omega), l6in_f, decide_eq_true (by omega), Option.bind_some, if_pos rfl, if_pos (by omega), hv, l6in_f, h1, Option.bind_some, if_pos rfl, l6in_f, Option.bind_some]
  | succ d ih =>
    intro i hi hd hf
    cases hb : decide (0 ≤ rd l (i : Int) ∧ rd l (i : Int) ≤ mall l.length) with
    | true =>
      refine Ev.step (fun k => ?_) (ih (i + 1) (by omega) (by omega) (fun j hj => by
        rcases Nat.lt_or_ge j i with x | x
        · exact hf j x
        · rw [show j = i by omega]; exact hb))
      simp only [spec_MachIn.l0]
      rw [hv, if_pos (by omega), if_pos (by omega), if_pos (by omega), if_pos (by omega), l6in_f, hb, Option.bind_some, if_pos rfl, wsucc (by omega)]
    | false =>
      have hany : anyI l (fun x => !decide (0 ≤ x ∧ x ≤ mall l.length)) = true := by
        unfold anyI
        exact dec_true ⟨i, by omega, by show (!decide (0 ≤ rd l (i : Int) ∧ rd l (i : Int) ≤ mall l.length)) = true; rw [hb]; rfl⟩
      have e : mok l st en = false := by unfold mok; rw [hany, decide_eq_true hn]; rfl
      rw [e]
      refine Ev.step (f := fun k => some false) (fun k => ?_) (Ev.now _)
      simp only [spec_MachIn.l0]
      rw [hv, if_pos (by omega), if_pos (by omega), if_pos (by omega), if_pos (by omega), l6in_f, hb, Option.bind_some, if_neg (by decide)]
theorem l6MachIn_f (l : List Int) (st en : Int) (hl : l.length ≤ 1000000000000) : Ev (fun k => spec_MachIn.f k l st en) (mok l st en) := by
  by_cases hn : 1 ≤ l.length ∧ l.length ≤ 5
  · exact l6MachIn_yes l st en hn _ 0 (Nat.zero_le _) rfl (fun j hj => by omega)
  · have e : mok l st en = false := by unfold mok; rw [decide_eq_false hn]; rfl
    rw [e]
    exact l6MachIn_no l st en hl hn _ 0 (Nat.zero_le _) rfl
end Go.Proofs.Ytneadgionjlicaa.P

-- impl.gcd, impl.lcm.
namespace Go.Proofs.Ytneadgionjlicaa.P
open Go.RowKit Go.Proofs.YtneadgionjlicaaW.PrintWords Go.Proofs.YtneadgionjlicaaW.PrintLast Go.Proofs.YtneadgionjlicaaW.PrintMore
set_option linter.unusedVariables false
set_option linter.unusedSimpArgs false

theorem gcd_l0 : ∀ (n m : Nat), n ≤ 1000000 → m ≤ 1000000 → Ev (fun k => impl_gcd.l0 k (m : Int) (n : Int)) ((Nat.gcd n m : Nat) : Int) := by
  intro n
  induction n using Nat.strongRecOn with
  | ind n ih =>
    intro m hn hm
    by_cases h0 : n = 0
    · subst h0
      rw [Nat.gcd_zero_left]
      refine Ev.step (f := fun k => some ((m : Nat) : Int)) (fun k => ?_) (Ev.now _)
      simp only [impl_gcd.l0]; rw [if_pos (by rfl)]
    · have hlt := Nat.mod_lt m (Nat.pos_of_ne_zero h0)
      have := ih (m % n) hlt n (by omega) hn
      rw [Nat.gcd_rec n m]
      refine Ev.step (fun k => ?_) this
      simp only [impl_gcd.l0]
      rw [if_neg (by omega), tmod_nat]
theorem gcd_f (m n : Nat) (hm : m ≤ 1000000) (hn : n ≤ 1000000) : Ev (fun k => impl_gcd.f k (m : Int) (n : Int)) ((Nat.gcd m n : Nat) : Int) := by
  rw [Nat.gcd_comm]; exact gcd_l0 n m hn hm
theorem lcm_le {m n : Nat} (hn : 0 < m ∨ 0 < n) : Nat.lcm m n ≤ m * n := by
  unfold Nat.lcm; exact Nat.div_le_self _ _
theorem lcm_f (m n : Nat) (hm : m ≤ 1000) (hn : n ≤ 1000) (h0 : 0 < m) : Ev (fun k => impl_lcm.f k (m : Int) (n : Int)) ((Nat.lcm m n : Nat) : Int) := by
  have hg : 0 < Nat.gcd m n := Nat.gcd_pos_of_pos_left n h0
  have hle : Nat.lcm m n ≤ m * n := lcm_le (.inl h0)
  have hmn : m * n ≤ 1000 * 1000 := Nat.mul_le_mul hm hn
  have hd : m / Nat.gcd m n * n = Nat.lcm m n := by
    unfold Nat.lcm
    rw [Nat.div_mul_right_comm (Nat.gcd_dvd_left m n)]
  have hd1 : m / Nat.gcd m n ≤ m := Nat.div_le_self _ _
  refine Ev.congr (fun k => rfl) (Ev.bind (gcd_f m n (by omega) (by omega)) ?_)
  simp only [if_neg (show ¬ (((Nat.gcd m n : Nat) : Int) = 0) by omega), tdiv_nat]
  have e1 : wrap64 ((m / Nat.gcd m n : Nat) : Int) = ((m / Nat.gcd m n : Nat) : Int) := by
    generalize m / Nat.gcd m n = x at hd1 ⊢
    exact w64 (by omega) (by omega)
  have e2 : wrap64 (((m / Nat.gcd m n : Nat) : Int) * (n : Int)) = ((Nat.lcm m n : Nat) : Int) := by
    have : ((m / Nat.gcd m n : Nat) : Int) * (n : Int) = ((Nat.lcm m n : Nat) : Int) := by rw [← hd, Int.natCast_mul]
    rw [this]; exact w64 (by omega) (by omega)
  rw [e1, e2]; exact Ev.now _
end Go.Proofs.Ytneadgionjlicaa.P

-- impl.both.
namespace Go.Proofs.Ytneadgionjlicaa.P
open Go.RowKit Go.Proofs.YtneadgionjlicaaW.PrintWords Go.Proofs.YtneadgionjlicaaW.PrintLast Go.Proofs.YtneadgionjlicaaW.PrintMore
set_option linter.unusedVariables false
set_option linter.unusedSimpArgs false

theorem both_f (a b c d : List Bool) (hb : b.length ≤ 1000) (hd : d.length ≤ 1000) (h0 : 0 < b.length) : Ev (fun k => impl_both.f k a b c d) (((max a.length c.length : Nat) : Int), ((Nat.lcm b.length d.length : Nat) : Int)) := by
  refine Ev.congr (fun k => rfl) (Ev.bind (lcm_f b.length d.length hb hd h0) ?_)
  have : mx (a.length : Int) (c.length : Int) = ((max a.length c.length : Nat) : Int) := by unfold mx; split <;> omega
  rw [this]; exact Ev.now _

end Go.Proofs.Ytneadgionjlicaa.P

-- impl.Machine.next: the states to which one may step.
namespace Go.Proofs.Ytneadgionjlicaa.P
open Go.RowKit Go.Proofs.YtneadgionjlicaaW.PrintWords Go.Proofs.YtneadgionjlicaaW.PrintLast Go.Proofs.YtneadgionjlicaaW.PrintMore
set_option linter.unusedVariables false
set_option linter.unusedSimpArgs false

theorem next_l0 (l : List Int) (hl : l.length ≤ 1000000) (x : Int) : ∀ (d i : Nat), i ≤ l.length → l.length - i = d → Ev (fun k => impl_Machine_next.l0 k x (nxs l x i) l l.length i) (nxt l x) := by
  intro d
  induction d with
  | zero =>
    intro i hi hd
    have e : i = l.length := by omega
    subst e
    refine Ev.step (f := fun k => some (nxt l x)) (fun k => ?_) (Ev.now _)
    simp only [impl_Machine_next.l0]; rw [if_neg (by omega)]; rfl
  | succ d ih =>
    intro i hi hd
    refine Ev.step (fun k => ?_) (ih (i + 1) (by omega) (by omega))
    simp only [impl_Machine_next.l0, nxs]
    rw [if_pos (by omega), if_pos (by omega), if_pos (by omega), wsucc (by omega)]
    split <;> rfl
theorem next_f (l : List Int) (hl : l.length ≤ 1000000) (st en x : Int) : Ev (fun k => impl_Machine_next.f k l st en x) (nxt l x) := next_l0 l hl x _ 0 (Nat.zero_le _) rfl
end Go.Proofs.Ytneadgionjlicaa.P

-- impl.pairs.
namespace Go.Proofs.Ytneadgionjlicaa.P
open Go.RowKit Go.Proofs.YtneadgionjlicaaW.PrintWords Go.Proofs.YtneadgionjlicaaW.PrintLast Go.Proofs.YtneadgionjlicaaW.PrintMore
set_option linter.unusedVariables false
set_option linter.unusedSimpArgs false

theorem prU_row {A B n : Nat} (hn : 0 < n) (hB : B < 2 ^ n) (i : Nat) : prU A B n ((i + 1) * n) = if A.testBit i = true then prU A B n (i * n) ||| B * 2 ^ (i * n) else prU A B n (i * n) := by
  have hs : (i + 1) * n = i * n + n := Nat.succ_mul i n
  have key : ∀ j, (decide (j < (i + 1) * n) && (A.testBit (j / n) && B.testBit (j % n))) = ((decide (j < i * n) && (A.testBit (j / n) && B.testBit (j % n))) || (A.testBit i && (decide (i * n ≤ j) && B.testBit (j - i * n)))) := by
    intro j
    by_cases h1 : j < i * n
    · rw [decide_eq_true h1, decide_eq_true (by omega), decide_eq_false (by omega : ¬ i * n ≤ j)]; simp
    · by_cases h2 : j < (i + 1) * n
      · have hd : j / n = i := by
          rw [show j = n * i + (j - i * n) by rw [Nat.mul_comm n i]; omega, Nat.mul_add_div hn, Nat.div_eq_of_lt (by omega)]; rfl
        have hr : j % n = j - i * n := by
          have e : j = n * i + (j - i * n) := by rw [Nat.mul_comm n i]; omega
          have h3 : (n * i + (j - i * n)) % n = j - i * n := by rw [Nat.mul_add_mod, Nat.mod_eq_of_lt (by omega)]
          rw [← e] at h3; exact h3
        rw [hd, hr, decide_eq_true h2, decide_eq_false h1, decide_eq_true (by omega : i * n ≤ j)]; simp
      · have h3 : B.testBit (j - i * n) = false := Nat.testBit_lt_two_pow (Nat.lt_of_lt_of_le hB (Nat.pow_le_pow_right (by omega) (by omega)))
        rw [decide_eq_false h1, decide_eq_false h2, h3]; simp
  apply Nat.eq_of_testBit_eq
  intro j
  rw [prU_bit, key j]
  cases h : A.testBit i with
  | true => rw [if_pos rfl, Nat.testBit_or, prU_bit, ← Nat.shiftLeft_eq, Nat.testBit_shiftLeft, Bool.true_and]
  | false => rw [if_neg (by decide), prU_bit, Bool.false_and, Bool.or_false]
theorem pairs_l0 (A B n : Nat) (hn : 1 ≤ n ∧ n ≤ 5) (hA : A < 2 ^ 62) (hB : B < 2 ^ n) : ∀ (d i : Nat), i ≤ 5 → 5 - i = d → Ev (fun k => impl_pairs.l0 k A B n ((prU A B n (i * n) : Nat) : Int) i) ((prU A B n (5 * n) : Nat) : Int) := by
  intro d
  induction d with
  | zero =>
    intro i hi hd
    have e : i = 5 := by omega
    subst e
    refine Ev.step (f := fun k => some ((prU A B n (5 * n) : Nat) : Int)) (fun k => ?_) (Ev.now _)
    simp only [impl_pairs.l0]; rw [if_neg (by omega)]
  | succ d ih =>
    intro i hi hd
    have h := ih (i + 1) (by omega) (by omega)
    rw [prU_row (by omega) hB i] at h
    have b1 : i * n ≤ 4 * 5 := Nat.mul_le_mul (by omega) hn.2
    have b2 : (2 : Nat) ^ n ≤ 2 ^ 5 := Nat.pow_le_pow_right (by omega) hn.2
    have b3 : (2 : Nat) ^ (i * n) ≤ 2 ^ 20 := Nat.pow_le_pow_right (by omega) (by omega)
    have b4 : B * 2 ^ (i * n) ≤ 2 ^ 5 * 2 ^ 20 := Nat.mul_le_mul (by omega) b3
    have b5 : prU A B n (i * n) < 2 ^ (i * n) := prU_lt _ _ _ _
    have hw : wrap64 ((i : Int) * (n : Int)) = ((i * n : Nat) : Int) := by
      rw [← Int.natCast_mul, w64 (by omega) (by omega)]
    refine Ev.step (fun k => ?_) h
    simp only [impl_pairs.l0]
    rw [bit_at A i hA (by omega), hw, if_pos (by clear hw; omega), if_pos (by clear hw; omega), wsucc (by clear hw; omega)]
    cases hb : A.testBit i with
    | true =>
      rw [if_pos rfl, if_pos rfl, if_pos rfl, if_pos (Int.natCast_nonneg _), shl_nat B (i * n) (by clear hw; omega) (by clear hw; omega), nor_nat (by clear hw; omega) (by clear hw; omega)]
    | false => rw [if_neg (by decide), if_neg (by decide)]
theorem pairs_f (A B n a : Nat) (hn : 1 ≤ n ∧ n ≤ 5) (ha : a ≤ 5) (hA : A < 2 ^ a) (hB : B < 2 ^ n) : Ev (fun k => impl_pairs.f k A B n) ((prU A B n (a * n) : Nat) : Int) := by
  have p1 : (2 : Nat) ^ a ≤ 2 ^ 5 := Nat.pow_le_pow_right (by omega) ha
  have h := pairs_l0 A B n hn (by omega) hB _ 0 (by omega) rfl
  rw [prU_more (by omega) hA (Nat.mul_le_mul_right n ha), Nat.zero_mul] at h
  exact h
end Go.Proofs.Ytneadgionjlicaa.P

-- spec.l6Open and pick: whatever is drawn lies in its range.
namespace Go.Proofs.Ytneadgionjlicaa.P
open Go.RowKit Go.Proofs.YtneadgionjlicaaW.PrintWords Go.Proofs.YtneadgionjlicaaW.PrintLast Go.Proofs.YtneadgionjlicaaW.PrintMore
set_option linter.unusedVariables false
set_option linter.unusedSimpArgs false

theorem bits_xor_nat (a b : Nat) (ha : a < 2 ^ 62) (hb : b < 2 ^ 62) : Go.bits .xor .i64 (a : Int) (b : Int) = ((a ^^^ b : Nat) : Int) := by
  have ha' : a % 2 ^ IntKind.i64.bits = a := Nat.mod_eq_of_lt (by show a < 2 ^ 64; omega)
  have hb' : b % 2 ^ IntKind.i64.bits = b := Nat.mod_eq_of_lt (by show b < 2 ^ 64; omega)
  have hx := Nat.xor_lt_two_pow ha hb
  simp only [Go.bits, BitVec.ofInt_natCast, BitVec.toNat_xor, BitVec.toNat_ofNat, ha', hb']
  rw [IntKind.wrap_i64]
  omega
theorem open_f (l : List Int) : spec_l6Open.f l = some (l.take 2000, 0) := by
  unfold spec_l6Open.f
  by_cases h : (l.length : Int) > 2000
  · rw [if_pos h, if_pos (by omega)]
  · rw [if_neg h, List.take_of_length_le (by omega)]
/-- The code of a draw: bytes, not too many. -/
structure Code (b : List Int) : Prop where
  byte : ∀ x ∈ b, 0 ≤ x ∧ x ≤ 255
  len : b.length ≤ 2000
theorem code_of {l : List Int} (h : ∀ x ∈ l, (Lit.int .u8 x).wf = true) : Code (l.take 2000) := by
  refine ⟨fun x hx => ?_, by rw [List.length_take]; omega⟩
  have := h x (List.mem_of_mem_take hx)
  have h0 : IntKind.u8.min = 0 := rfl
  have h1 : IntKind.u8.max = 255 := rfl
  simp [Lit.wf, h0, h1] at this
  omega
theorem Code.rd {b : List Int} (h : Code b) {i : Nat} (hi : i < b.length) : 0 ≤ Go.Proofs.YtneadgionjlicaaW.PrintWords.rd b (i : Int) ∧ Go.Proofs.YtneadgionjlicaaW.PrintWords.rd b (i : Int) ≤ 255 := by
  have e : Go.Proofs.YtneadgionjlicaaW.PrintWords.rd b (i : Int) = b[i] := by simp [Go.Proofs.YtneadgionjlicaaW.PrintWords.rd, List.getD_eq_getElem?_getD, hi]
  rw [e]; exact h.byte _ (List.getElem_mem hi)
theorem pick_f {b : List Int} (h : Code b) (p n : Nat) (hp : p ≤ 1000000) (hn : 1 ≤ n) (hn2 : n ≤ 1000000) : ∃ v : Nat, v < n ∧ Ev (fun k => spec_l6Rd_pick.f k b p n) ((v : Int), ((p + 1 : Nat) : Int)) := by
  have w1 : wrap64 ((p : Int) + 1) = ((p + 1 : Nat) : Int) := by rw [w64 (by omega) (by omega)]; omega
  have w2 : wrap64 (((p + 1 : Nat) : Int) - 1) = (p : Int) := by rw [w64 (by omega) (by omega)]; omega
  have hlen := h.len
  by_cases h0 : b.length = 0
  · refine ⟨0, by omega, ?_⟩
    have e : ((b.length : Int) == 0) = true := by rw [beq_iff_eq]; omega
    refine Ev.congr (f := fun k => spec_l6Rd_pick.j0 k n true b ((p + 1 : Nat) : Int)) (fun k => ?_) (Ev.step (f := fun k => some (0, ((p + 1 : Nat) : Int))) (fun k => ?_) (Ev.now _))
    · unfold spec_l6Rd_pick.f; rw [if_neg (by omega), e, w1]
    · simp only [spec_l6Rd_pick.j0]; rw [if_pos trivial]
  · have e : ((b.length : Int) == 0) = false := by rw [beq_eq_false_iff_ne]; omega
    have st : ∀ k, spec_l6Rd_pick.f k b p n = spec_l6Rd_pick.j0 k n false b ((p + 1 : Nat) : Int) := fun k => by
      unfold spec_l6Rd_pick.f; rw [if_neg (by omega), e, w1]
    by_cases hlt : p < b.length
    · obtain ⟨v, hv⟩ := Int.eq_ofNat_of_zero_le (h.rd hlt).1
      have hv2 := (h.rd hlt).2
      rw [hv] at hv2
      refine ⟨v % n, Nat.mod_lt _ (by omega), Ev.congr st (Ev.step (f := fun k => some (((v % n : Nat) : Int), ((p + 1 : Nat) : Int))) (fun k => ?_) (Ev.now _))⟩
      simp only [spec_l6Rd_pick.j0]
      rw [if_neg (by decide), w2, if_pos (by omega), if_pos (by omega), if_neg (by omega), hv, w64 (by omega) (by omega), Int.tmod_eq_emod_of_nonneg (by omega)]
      rfl
    · have hpos : 0 < b.length := by omega
      have m1 : Int.tmod (p : Int) (b.length : Int) = ((p % b.length : Nat) : Int) := by rw [Int.tmod_eq_emod_of_nonneg (by omega)]; rfl
      have w3 : wrap64 ((p : Int) * 7) = ((p * 7 : Nat) : Int) := by rw [w64 (by omega) (by omega)]; omega
      have w4 : wrap64 (((p * 7 : Nat) : Int) + 3) = ((p * 7 + 3 : Nat) : Int) := by rw [w64 (by omega) (by omega)]; omega
      have m2 : Int.tmod ((p * 7 + 3 : Nat) : Int) (b.length : Int) = (((p * 7 + 3) % b.length : Nat) : Int) := by rw [Int.tmod_eq_emod_of_nonneg (by omega)]; rfl
      have l1 := Nat.mod_lt p hpos
      have l2 := Nat.mod_lt (p * 7 + 3) hpos
      obtain ⟨v1, hv1⟩ := Int.eq_ofNat_of_zero_le (h.rd l1).1
      obtain ⟨v2, hv2⟩ := Int.eq_ofNat_of_zero_le (h.rd l2).1
      have u1 := (h.rd l1).2
      have u2 := (h.rd l2).2
      rw [hv1] at u1
      rw [hv2] at u2
      have q1 : Int.tdiv (p : Int) (b.length : Int) = ((p / b.length : Nat) : Int) := by rw [Int.tdiv_eq_ediv_of_nonneg (by omega)]; rfl
      have q1l : p / b.length ≤ p := Nat.div_le_self _ _
      generalize p / b.length = qq at q1 q1l
      have s1 : wrap64 (wrap64 (v1 : Int) * 131) = ((v1 * 131 : Nat) : Int) := by rw [w64 (x := (v1 : Int)) (by omega) (by omega), w64 (by omega) (by omega)]; omega
      have s2 : wrap64 (wrap64 (v2 : Int) * 1117) = ((v2 * 1117 : Nat) : Int) := by rw [w64 (x := (v2 : Int)) (by omega) (by omega), w64 (by omega) (by omega)]; omega
      have s3 : wrap64 ((p : Int) * 29) = ((p * 29 : Nat) : Int) := by rw [w64 (by omega) (by omega)]; omega
      have s4 : wrap64 (wrap64 ((qq : Nat) : Int) * 53) = ((qq * 53 : Nat) : Int) := by rw [w64 (x := ((qq : Nat) : Int)) (by omega) (by omega), w64 (by omega) (by omega)]; omega
      have s5 : wrap64 (wrap64 (wrap64 (((v1 * 131 : Nat) : Int) + ((v2 * 1117 : Nat) : Int)) + ((p * 29 : Nat) : Int)) + ((qq * 53 : Nat) : Int)) = ((v1 * 131 + v2 * 1117 + p * 29 + qq * 53 : Nat) : Int) := by
        rw [w64 (x := ((v1 * 131 : Nat) : Int) + ((v2 * 1117 : Nat) : Int)) (by omega) (by omega), w64 (x := ((v1 * 131 : Nat) : Int) + ((v2 * 1117 : Nat) : Int) + ((p * 29 : Nat) : Int)) (by omega) (by omega), w64 (by omega) (by omega)]; omega
      generalize hX : v1 * 131 + v2 * 1117 + p * 29 + qq * 53 = X at s5
      have hXl : X < 100000000 := by omega
      have s6 : wrap64 (Int.tdiv (X : Int) 64) = ((X / 64 : Nat) : Int) := by
        rw [Int.tdiv_eq_ediv_of_nonneg (by omega), w64 (by omega) (by omega)]; omega
      have hx := bits_xor_nat X (X / 64) (by omega) (by omega)
      refine ⟨(X ^^^ X / 64) % n, Nat.mod_lt _ (by omega), Ev.congr st (Ev.step (f := fun k => some ((((X ^^^ X / 64) % n : Nat) : Int), ((p + 1 : Nat) : Int))) (fun k => ?_) (Ev.now _))⟩
      simp only [spec_l6Rd_pick.j0]
      rw [if_neg (by decide), w2, if_neg (by omega), if_neg (by omega), m1, w3, w4, m2, if_pos (by omega), if_pos (by omega), if_pos (by omega), if_pos (by omega), if_neg (by omega), hv1, hv2, q1, s1, s2, s3, s4, s5, s6, hx, Int.tmod_eq_emod_of_nonneg (by omega)]
      rfl

end Go.Proofs.Ytneadgionjlicaa.P

-- spec.l91Machine draws a machine.
namespace Go.Proofs.Ytneadgionjlicaa.P
open Go.RowKit Go.Proofs.YtneadgionjlicaaW.PrintWords Go.Proofs.YtneadgionjlicaaW.PrintLast Go.Proofs.YtneadgionjlicaaW.PrintMore
set_option linter.unusedVariables false
set_option linter.unusedSimpArgs false

/-- What was drawn: a machine of few steps, and the place behind it. -/
def Drawn4 (p : Nat) (r : List Int × Int × Int × Int) : Prop := r.1.length ≤ 100 ∧ ∃ q : Nat, r.2.2.2 = (q : Int) ∧ q ≤ p
theorem pow_small {n : Nat} (h : n ≤ 5) : 1 ≤ 2 ^ n ∧ 2 ^ n ≤ 32 := ⟨Nat.two_pow_pos n, by have : 2 ^ n ≤ 2 ^ 5 := Nat.pow_le_pow_right (by omega) h; omega⟩
theorem drawMach_j1 {b : List Int} (h : Code b) (n : Nat) (hn : n ≤ 5) (p : Nat) (hp : p ≤ 900000) (l : List Int) (hl : l.length ≤ 90) (x y : Int) : ∃ r, Drawn4 (p + 2) r ∧ Ev (fun k => spec_l91Machine.j1 k n b p l x y) r := by
  obtain ⟨v, hv, K1, h1⟩ := pick_f h p 20 (by omega) (by omega) (by omega)
  obtain ⟨u, hu, K2, h2⟩ := pick_f h (p + 1) 2 (by omega) (by omega) (by omega)
  have g1 : ∀ k, K1 ≤ k → spec_l6Rd_pick.f k b (p : Int) 20 = some ((v : Int), ((p + 1 : Nat) : Int)) := h1
  have g2 : ∀ k, K2 ≤ k → spec_l6Rd_pick.f k b ((p + 1 : Nat) : Int) 2 = some ((u : Int), ((p + 1 + 1 : Nat) : Int)) := h2
  clear h1 h2
  by_cases c0 : v = 0
  · subst c0
    refine ⟨(l, x, rd [(-1), shl .i64 1 (n : Int)] (u : Int), ((p + 1 + 1 : Nat) : Int)), ⟨by show l.length ≤ 100; omega, p + 1 + 1, rfl, by omega⟩, K1 + K2 + 1, fun k hk => ?_⟩
    obtain ⟨k, rfl⟩ : ∃ j, k = j + 1 := ⟨k - 1, by omega⟩
    have c1 : (u : Int) < (([(-1), shl .i64 1 (n : Int)] : List Int).length : Int) := by show (u : Int) < 2; omega
    simp only [spec_l91Machine.j1]
    rw [g1 k (by omega), Option.bind_some]
    dsimp only
    rw [if_pos (by omega), if_pos (by omega), Option.bind_some, g2 k (by omega), Option.bind_some]
    dsimp only
    rw [if_pos (by omega), if_pos c1]
  · by_cases c1 : v = 1
    · subst c1
      refine ⟨(l ++ [1, 1, 1, 1, 1], x, y, ((p + 1 : Nat) : Int)), ⟨by show (l ++ _).length ≤ 100; rw [List.length_append]; show l.length + 5 ≤ 100; omega, p + 1, rfl, by omega⟩, K1 + 1, fun k hk => ?_⟩
      obtain ⟨k, rfl⟩ : ∃ j, k = j + 1 := ⟨k - 1, by omega⟩
      have c2 : l.length + ([1, 1, 1, 1, 1] : List Int).length < 17592186044416 := by show l.length + 5 < 17592186044416; omega
      simp only [spec_l91Machine.j1]
      rw [g1 k (by omega), Option.bind_some]
      dsimp only
      rw [if_neg (by omega), if_pos (by omega), Option.bind_some, if_pos c2]
    · by_cases c2 : v = 2
      · subst c2
        refine ⟨([], x, y, ((p + 1 : Nat) : Int)), ⟨by show (0 : Nat) ≤ 100; omega, p + 1, rfl, by omega⟩, K1 + 1, fun k hk => ?_⟩
        obtain ⟨k, rfl⟩ : ∃ j, k = j + 1 := ⟨k - 1, by omega⟩
        simp only [spec_l91Machine.j1]
        rw [g1 k (by omega), Option.bind_some]
        dsimp only
        rw [if_neg (by omega), if_neg (by omega), if_pos (by omega)]
      · refine ⟨(l, x, y, ((p + 1 : Nat) : Int)), ⟨by show l.length ≤ 100; omega, p + 1, rfl, by omega⟩, K1 + 1, fun k hk => ?_⟩
        obtain ⟨k, rfl⟩ : ∃ j, k = j + 1 := ⟨k - 1, by omega⟩
        simp only [spec_l91Machine.j1]
        rw [g1 k (by omega), Option.bind_some]
        dsimp only
        rw [if_neg (by omega), if_neg (by omega), if_neg (by omega)]
theorem drawMach_l0 {b : List Int} (h : Code b) (n : Nat) (hn0 : 1 ≤ n) (hn : n ≤ 5) (one : Bool) (y : Int) : ∀ (d i p : Nat) (l : List Int) (x : Int), i ≤ n → n - i = d → p + 2 * d + 10 ≤ 900000 → l.length + d ≤ 50 → ∃ r, Drawn4 (p + 2 * d + 3) r ∧ Ev (fun k => spec_l91Machine.l0 k n one i b p l x y) r := by
  have hpw := pow_small hn
  intro d
  induction d with
  | zero =>
    intro i p l x hi hd hp hl
    cases one with
    | false =>
      obtain ⟨r, h1, h2⟩ := drawMach_j1 h n hn p (by omega) l (by omega) x y
      refine ⟨r, ⟨h1.1, by obtain ⟨q, a, c⟩ := h1.2; exact ⟨q, a, by omega⟩⟩, Ev.step (fun k => ?_) h2⟩
      simp only [spec_l91Machine.l0]
      rw [if_neg (by omega), if_neg (by decide)]
    | true =>
      obtain ⟨v, hv, K1, h1⟩ := pick_f h p n (by omega) (by omega) (by omega)
      dsimp only at h1
      obtain ⟨r, h3, K2, h2⟩ := drawMach_j1 h n hn (p + 1) (by omega) l (by omega) (shl .i64 1 (v : Int)) y
      dsimp only at h2
      refine ⟨r, ⟨h3.1, by obtain ⟨q, a, c⟩ := h3.2; exact ⟨q, a, by omega⟩⟩, K1 + K2 + 1, fun k hk => ?_⟩
      obtain ⟨k, rfl⟩ : ∃ j, k = j + 1 := ⟨k - 1, by omega⟩
      simp only [spec_l91Machine.l0]
      rw [if_neg (by omega), if_pos (by trivial), h1 k (by omega), Option.bind_some]
      dsimp only
      rw [if_pos (by omega)]
      exact h2 k (by omega)
  | succ d ih =>
    intro i p l x hi hd hp hl
    cases one with
    | false =>
      obtain ⟨v, hv, K1, h1⟩ := pick_f h p (2 ^ n) (by omega) (by omega) (by omega)
      dsimp only at h1
      obtain ⟨u, hu, K2, h2⟩ := pick_f h (p + 1) (2 ^ n) (by omega) (by omega) (by omega)
      dsimp only at h2
      obtain ⟨r, h4, K3, h3⟩ := ih (i + 1) (p + 1 + 1) (l ++ [Go.bits .and .i64 (v : Int) (u : Int)]) x (by omega) (by omega) (by omega) (by rw [List.length_append]; show l.length + 1 + d ≤ 50; omega)
      dsimp only at h3
      refine ⟨r, ⟨h4.1, by obtain ⟨q, a, c⟩ := h4.2; exact ⟨q, a, by omega⟩⟩, K1 + K2 + K3 + 1, fun k hk => ?_⟩
      obtain ⟨k, rfl⟩ : ∃ j, k = j + 1 := ⟨k - 1, by omega⟩
      simp only [spec_l91Machine.l0]
      rw [if_pos (by omega), if_neg (by decide), if_pos (by omega), shl_pow (by omega), h1 k (by omega), Option.bind_some]
      dsimp only
      rw [h2 k (by omega), Option.bind_some]
      dsimp only
      rw [if_pos (by omega), wsucc (by omega)]
      exact h3 k (by omega)
    | true =>
      obtain ⟨v, hv, K1, h1⟩ := pick_f h p n (by omega) (by omega) (by omega)
      dsimp only at h1
      obtain ⟨r, h4, K3, h3⟩ := ih (i + 1) (p + 1) (l ++ [shl .i64 1 (v : Int)]) x (by omega) (by omega) (by omega) (by rw [List.length_append]; show l.length + 1 + d ≤ 50; omega)
      dsimp only at h3
      refine ⟨r, ⟨h4.1, by obtain ⟨q, a, c⟩ := h4.2; exact ⟨q, a, by omega⟩⟩, K1 + K3 + 1, fun k hk => ?_⟩
      obtain ⟨k, rfl⟩ : ∃ j, k = j + 1 := ⟨k - 1, by omega⟩
      simp only [spec_l91Machine.l0]
      rw [if_pos (by omega), if_pos (by trivial), h1 k (by omega), Option.bind_some]
      dsimp only
      rw [if_pos (by omega), if_pos (by omega), wsucc (by omega)]
      exact h3 k (by omega)
theorem drawMach_f {b : List Int} (h : Code b) (p : Nat) (hp : p ≤ 800000) : ∃ r, Drawn4 (p + 100) r ∧ Ev (fun k => spec_l91Machine.f k b p) r := by
  obtain ⟨v, hv, K1, h1⟩ := pick_f h p 5 (by omega) (by omega) (by omega)
  have g1 : ∀ k, K1 ≤ k → spec_l6Rd_pick.f k b (p : Int) 5 = some ((v : Int), ((p + 1 : Nat) : Int)) := h1
  have hpw := pow_small (show 1 + v ≤ 5 by omega)
  obtain ⟨u, hu, K2, h2⟩ := pick_f h (p + 1) (2 ^ (1 + v)) (by omega) (by omega) (by omega)
  dsimp only at h2
  obtain ⟨x, hx, K3, h3⟩ := pick_f h (p + 1 + 1) (2 ^ (1 + v)) (by omega) (by omega) (by omega)
  dsimp only at h3
  obtain ⟨y, hy, K4, h4⟩ := pick_f h (p + 1 + 1 + 1) 2 (by omega) (by omega) (by omega)
  have g4 : ∀ k, K4 ≤ k → spec_l6Rd_pick.f k b ((p + 1 + 1 + 1 : Nat) : Int) 2 = some ((y : Int), ((p + 1 + 1 + 1 + 1 : Nat) : Int)) := h4
  obtain ⟨r, h5, K6, h6⟩ := drawMach_l0 h (1 + v) (by omega) (by omega) ((y : Int) == 0) (x : Int) (1 + v) 0 (p + 1 + 1 + 1 + 1) [] (u : Int) (by omega) (by omega) (by omega) (by show 0 + (1 + v) ≤ 50; omega)
  have g6 : ∀ k, K6 ≤ k → spec_l91Machine.l0 k ((1 + v : Nat) : Int) ((y : Int) == 0) 0 b ((p + 1 + 1 + 1 + 1 : Nat) : Int) [] (u : Int) (x : Int) = some r := h6
  clear h1 h4 h6
  have hw : wrap64 (1 + (v : Int)) = ((1 + v : Nat) : Int) := by rw [w64 (by omega) (by omega)]; omega
  refine ⟨r, ⟨h5.1, by obtain ⟨q, a, c⟩ := h5.2; exact ⟨q, a, by omega⟩⟩, K1 + K2 + K3 + K4 + K6, fun k hk => ?_⟩
  dsimp only
  unfold spec_l91Machine.f
  rw [g1 k (by omega), Option.bind_some]
  dsimp only
  rw [hw, if_pos (by clear hw; omega), shl_pow (by clear hw; omega), h2 k (by clear hw; omega), Option.bind_some]
  dsimp only
  rw [h3 k (by clear hw; omega), Option.bind_some]
  dsimp only
  rw [g4 k (by clear hw; omega), Option.bind_some]
  exact g6 k (by clear hw; omega)
end Go.Proofs.Ytneadgionjlicaa.P

-- impl.setOf reads what parse tells.
namespace Go.Proofs.Ytneadgionjlicaa.P
open Go.RowKit Go.Proofs.YtneadgionjlicaaW.PrintWords Go.Proofs.YtneadgionjlicaaW.PrintLast Go.Proofs.YtneadgionjlicaaW.PrintMore
set_option linter.unusedVariables false
set_option linter.unusedSimpArgs false
theorem index1_f (s : ByteArray) (c : UInt8) : stringslite_Index.f s ⟨#[c]⟩ = some (if (chrs s).findIdx (· == c) < s.size then (((chrs s).findIdx (· == c) : Nat) : Int) else -1) := by
  unfold stringslite_Index.f; rw [if_pos (show (⟨#[c]⟩ : ByteArray).size = 1 from rfl)]; rfl
theorem cut_f (s : ByteArray) (c : UInt8) (hs : s.size ≤ 70368744177664) : strings_Cut.f s ⟨#[c]⟩ = some (if (chrs s).findIdx (· == c) < s.size then (s.extract 0 ((chrs s).findIdx (· == c)), s.extract ((chrs s).findIdx (· == c) + 1) s.size, true) else (s, ⟨#[]⟩, false)) := by
  unfold strings_Cut.f stringslite_Cut.f
  rw [index1_f]
  simp only [Option.bind_some]
  generalize (chrs s).findIdx (· == c) = p
  by_cases h : p < s.size
  · rw [if_pos h]
    have hw : wrap64 ((p : Int) + ((⟨#[c]⟩ : ByteArray).size : Int)) = ((p + 1 : Nat) : Int) := by
      have : (⟨#[c]⟩ : ByteArray).size = 1 := rfl
      rw [this, w64 (by omega) (by omega)]; omega
    rw [if_pos (by omega), if_pos (by omega), if_pos (by omega), hw, if_pos (by omega), if_pos (by omega), if_pos h]
    simp only [Int.toNat_natCast, Option.bind_some]
  · rw [if_neg h, if_neg (by omega), if_neg h]; rfl
theorem suffix_f (s : ByteArray) (c : UInt8) (hs : s.size ≤ 70368744177664) : strings_CutSuffix.f s ⟨#[c]⟩ = some (if (chrs s)[s.size - 1]? = some c then (s.extract 0 (s.size - 1), true) else (s, false)) := by
  unfold strings_CutSuffix.f stringslite_CutSuffix.f stringslite_HasSuffix.f
  have h1 : (⟨#[c]⟩ : ByteArray).size = 1 := rfl
  rw [h1]
  by_cases h : s.size = 0
  · rw [if_neg (by omega)]
    have : chrs s = [] := List.eq_nil_of_length_eq_zero (by rw [chrs_length]; exact h)
    simp [this]
  · have hw : wrap64 ((s.size : Int) - ((1 : Nat) : Int)) = ((s.size - 1 : Nat) : Int) := by rw [w64 (by omega) (by omega)]; omega
    rw [if_pos (by omega), hw, if_pos (by omega), if_pos (by omega)]
    simp only [Option.bind_some, Int.toNat_natCast]
    have e : (((s.extract (s.size - 1) s.size).toList == (⟨#[c]⟩ : ByteArray).toList) = true) ↔ (chrs s)[s.size - 1]? = some c := by
      rw [beq_iff_eq, ByteArray.toList_eq, ByteArray.toList_eq]
      show chrs _ = [c] ↔ _
      rw [chrs_extract, List.take_of_length_le (by rw [chrs_length]; omega)]
      have hl : s.size - 1 < (chrs s).length := by rw [chrs_length]; omega
      rw [List.drop_eq_getElem_cons hl, List.drop_of_length_le (by rw [chrs_length]; omega), List.getElem?_eq_getElem hl]
      simp
    by_cases hc : (chrs s)[s.size - 1]? = some c
    · rw [if_pos (e.2 hc), if_pos (by omega), if_pos (by omega), if_pos hc]; rfl
    · rw [if_neg (fun h => hc (e.1 h)), if_neg hc]; rfl

theorem isigns_ev (s : ByteArray) (hs : s.size ≤ 70368744177664) : ∀ (d : Nat) (i : Nat) (acc : List Bool), i ≤ s.size → s.size - i = d → acc.length ≤ i →
    Ev (fun k => impl_signs.l0 k acc (bytesOf s) ((bytesOf s).length : Int) i) (match bitsL ((chrs s).drop i) with | some l => (acc ++ l, decide ((acc ++ l).length ≤ 60)) | none => ([], false)) := by
  intro d
  induction d with
  | zero =>
    intro i acc hi hd ha
    refine Ev.step (f := fun k => some (acc, decide ((acc.length : Int) ≤ 60))) (fun k => ?_) ?_
    · simp only [impl_signs.l0, bytesOf_length]; rw [if_neg (by omega)]
    · have : (chrs s).drop i = [] := by rw [List.drop_eq_nil_iff, chrs_length]; omega
      rw [this]; simp only [bitsL, List.append_nil]
      have e : decide ((acc.length : Int) ≤ 60) = decide (acc.length ≤ 60) := by apply decide_eq_decide.2; omega
      rw [e]; exact Ev.now _
  | succ d ih =>
    intro i acc hi hd ha
    have hlt : i < s.size := by omega
    have hl : i < (chrs s).length := by rw [chrs_length]; exact hlt
    have hdrop : (chrs s).drop i = (chrs s)[i] :: (chrs s).drop (i + 1) := List.drop_eq_getElem_cons hl
    have hw : wrap64 ((i : Int) + 1) = ((i + 1 : Nat) : Int) := by rw [w64 (by omega) (by omega)]; omega
    have hb := bt_chr s hlt
    rw [hdrop]
    by_cases c0 : (chrs s)[i] = 48
    · have e : bt s (i : Int) = 48 := by rw [hb, c0]; rfl
      refine Ev.step (f := fun k => impl_signs.l0 k (acc ++ [false]) (bytesOf s) ((bytesOf s).length : Int) ((i + 1 : Nat) : Int)) (fun k => ?_) ?_
      · simp only [impl_signs.l0, bytesOf_length, rd_bytesOf]; rw [if_pos (by omega), if_pos (by omega), if_pos (by omega), if_pos e, if_pos (by omega), hw, e]; rfl
      · have := ih (i + 1) (acc ++ [false]) (by omega) (by omega) (by simp; omega)
        simp only [bitsL, if_pos c0]
        cases h : bitsL ((chrs s).drop (i + 1)) with
        | none => rw [h] at this; exact this
        | some l => rw [h] at this; simpa using this
    · by_cases c1 : (chrs s)[i] = 49
      · have e : bt s (i : Int) = 49 := by rw [hb, c1]; rfl
        refine Ev.step (f := fun k => impl_signs.l0 k (acc ++ [true]) (bytesOf s) ((bytesOf s).length : Int) ((i + 1 : Nat) : Int)) (fun k => ?_) ?_
        · simp only [impl_signs.l0, bytesOf_length, rd_bytesOf]; rw [if_pos (by omega), if_pos (by omega), if_pos (by omega), if_neg (by omega), if_pos e, if_pos (by omega), hw]
        · have := ih (i + 1) (acc ++ [true]) (by omega) (by omega) (by simp; omega)
          simp only [bitsL, if_neg c0, if_pos c1]
          cases h : bitsL ((chrs s).drop (i + 1)) with
          | none => rw [h] at this; exact this
          | some l => rw [h] at this; simpa using this
      · refine Ev.step (f := fun k => some (([] : List Bool), false)) (fun k => ?_) ?_
        · have e0 : ¬ bt s (i : Int) = 48 := by rw [hb]; intro h; exact c0 ((u8_eq (n := 48) (by omega)).1 h)
          have e1 : ¬ bt s (i : Int) = 49 := by rw [hb]; intro h; exact c1 ((u8_eq (n := 49) (by omega)).1 h)
          simp only [impl_signs.l0, bytesOf_length, rd_bytesOf]; rw [if_pos (by omega), if_pos (by omega), if_pos (by omega), if_neg e0, if_neg e1]
        · simp only [bitsL, if_neg c0, if_neg c1]; exact Ev.now _

/-- What impl.signs answers. -/
def sgns (s : List UInt8) : List Bool × Bool := match bitsL s with | some l => (l, decide (l.length ≤ 60)) | none => ([], false)
theorem isigns_f (s : ByteArray) (hs : s.size ≤ 70368744177664) : Ev (fun k => impl_signs.f k s) (sgns (chrs s)) := by
  have := isigns_ev s hs s.size 0 [] (by omega) (by omega) (by simp)
  unfold sgns
  refine Ev.congr (fun k => ?_) (by simpa using this)
  unfold impl_signs.f bytesConv.f; rw [if_pos hs]; simp only [Option.bind_some, bytesOf_length]

/-- What impl.setOf answers, out of its parts. -/
def setFin (o e : Bool) (X Y : List Bool × Bool) : List Bool × List Bool × Bool := (X.1, Y.1, o && e && X.2 && Y.2 && decide (0 < Y.1.length))
theorem setOf_ev (s A R B : ByteArray) (o e : Bool) (h1 : strings_Cut.f s ⟨#[40]⟩ = some (A, R, o)) (h2 : strings_CutSuffix.f R ⟨#[41]⟩ = some (B, e)) (hA : A.size ≤ 70368744177664) (hB : B.size ≤ 70368744177664) :
    Ev (fun k => impl_setOf.f k s) (setFin o e (sgns (chrs A)) (sgns (chrs B))) := by
  refine Ev.congr (f := fun k => (impl_signs.f k A).bind fun X => (impl_signs.f k B).bind fun Y => some (setFin o e X Y)) (fun k => ?_) (Ev.bind (isigns_f A hA) (Ev.bind (isigns_f B hB) (Ev.now _)))
  unfold impl_setOf.f
  rw [h1]
  simp only [Option.bind_some]
  rw [h2]
  simp only [Option.bind_some]
  congr 1; funext X; congr 1; funext Y
  unfold setFin
  have ed : decide ((Y.1.length : Int) > 0) = decide (0 < Y.1.length) := by apply decide_eq_decide.2; omega
  rw [ed]
  cases o <;> cases e <;> rcases X with ⟨x, _ | _⟩ <;> rcases Y with ⟨y, _ | _⟩ <;> simp

theorem setOf_f (s : ByteArray) (hs : s.size ≤ 70368744177664) : ∃ x y, Ev (fun k => impl_setOf.f k s) (x, y, (parse (chrs s)).isSome) ∧ ∀ a b, parse (chrs s) = some (a, b) → x = a ∧ y = b := by
  have hp := (chrs s).findIdx_le_length (p := (· == 40))
  rw [chrs_length] at hp
  have h1 := cut_f s 40 hs
  -- out of the parts
  have fin : ∀ A R B o e, strings_Cut.f s ⟨#[40]⟩ = some (A, R, o) → strings_CutSuffix.f R ⟨#[41]⟩ = some (B, e) → A.size ≤ s.size → B.size ≤ s.size → (setFin o e (sgns (chrs A)) (sgns (chrs B))).2.2 = (parse (chrs s)).isSome → (∀ a b, parse (chrs s) = some (a, b) → (sgns (chrs A)).1 = a ∧ (sgns (chrs B)).1 = b) →
      ∃ x y, Ev (fun k => impl_setOf.f k s) (x, y, (parse (chrs s)).isSome) ∧ ∀ a b, parse (chrs s) = some (a, b) → x = a ∧ y = b := fun A R B o e g1 g2 g3 g4 g5 g6 => by
    have := setOf_ev s A R B o e g1 g2 (by omega) (by omega)
    refine ⟨(sgns (chrs A)).1, (sgns (chrs B)).1, ?_, g6⟩
    rw [← g5]; exact this
  by_cases h : (chrs s).findIdx (· == 40) < s.size
  · rw [if_pos h] at h1
    have hsz : (s.extract ((chrs s).findIdx (· == 40) + 1) s.size).size = s.size - ((chrs s).findIdx (· == 40) + 1) := by simp
    have h2 := suffix_f (s.extract ((chrs s).findIdx (· == 40) + 1) s.size) 41 (by omega)
    have he : (chrs (s.extract ((chrs s).findIdx (· == 40) + 1) s.size))[(s.extract ((chrs s).findIdx (· == 40) + 1) s.size).size - 1]? = if (chrs s).findIdx (· == 40) + 1 < s.size then (chrs s)[s.size - 1]? else none := by
      rw [chrs_extract, List.take_of_length_le (by rw [chrs_length]; omega), hsz, List.getElem?_drop]
      split
      · congr 1; omega
      · exact List.getElem?_eq_none (by rw [chrs_length]; omega)
    rw [he] at h2
    have hP : parse (chrs s) = if (chrs s).findIdx (· == 40) + 2 < s.size ∧ (chrs s)[s.size - 1]? = some 41 then
        match bitsL ((chrs s).take ((chrs s).findIdx (· == 40))), bitsL (((chrs s).take (s.size - 1)).drop ((chrs s).findIdx (· == 40) + 1)) with
        | some a, some b => if a.length ≤ 60 ∧ b.length ≤ 60 then some (a, b) else none
        | _, _ => none else none := by unfold parse; rw [chrs_length] <;> rfl
    have hc1 : chrs (s.extract 0 ((chrs s).findIdx (· == 40))) = (chrs s).take ((chrs s).findIdx (· == 40)) := by rw [chrs_extract, List.drop_zero]
    have hA : (s.extract 0 ((chrs s).findIdx (· == 40))).size ≤ s.size := by simp; omega
    generalize hq : (chrs s).findIdx (· == 40) = p at *
    by_cases h3 : (if p + 1 < s.size then (chrs s)[s.size - 1]? else none) = some 41
    · rw [if_pos h3] at h2
      have h4 : p + 1 < s.size := by
        refine Classical.byContradiction fun hn => ?_
        rw [if_neg hn] at h3; cases h3
      rw [if_pos h4] at h3
      have hc2 : chrs ((s.extract (p + 1) s.size).extract 0 ((s.extract (p + 1) s.size).size - 1)) = ((chrs s).take (s.size - 1)).drop (p + 1) := by
        rw [chrs_extract, chrs_extract, List.drop_zero, show (chrs s).take s.size = chrs s from List.take_of_length_le (by rw [chrs_length]; omega), hsz, List.drop_take]
        congr 1; omega
      have hl2 : (((chrs s).take (s.size - 1)).drop (p + 1)).length = s.size - 1 - (p + 1) := by rw [List.length_drop, List.length_take, chrs_length]; omega
      have hP2 : parse (chrs s) = match bitsL ((chrs s).take p), bitsL (((chrs s).take (s.size - 1)).drop (p + 1)) with
          | some a, some b => if p + 2 < s.size ∧ (a.length ≤ 60 ∧ b.length ≤ 60) then some (a, b) else none
          | _, _ => none := by
        rw [hP]
        by_cases h5 : p + 2 < s.size
        · rw [if_pos ⟨h5, h3⟩]
          split <;> simp_all
        · rw [if_neg (by rintro ⟨x, _⟩; exact h5 x)]
          split
          · rw [if_neg (by rintro ⟨x, _⟩; exact h5 x)]
          · rfl
      refine fin _ _ _ _ _ h1 h2 hA (by simp; omega) ?_ ?_
      · rw [hc1, hc2, hP2]
        unfold setFin sgns
        cases b1 : bitsL ((chrs s).take p) with
        | none => simp
        | some a =>
          cases b2 : bitsL (((chrs s).take (s.size - 1)).drop (p + 1)) with
          | none => simp
          | some b =>
            have hbl := bitsL_length b2
            rw [hl2] at hbl
            have hb0 : decide (0 < b.length) = decide (p + 2 < s.size) := by apply decide_eq_decide.2; omega
            simp only [hb0]
            by_cases la : a.length ≤ 60 <;> by_cases lb : b.length ≤ 60 <;> by_cases h5 : p + 2 < s.size <;> simp [la, lb, h5]
      · rw [hc1, hc2, hP2]
        unfold sgns
        intro a' b' hab
        cases b1 : bitsL ((chrs s).take p) with
        | none => rw [b1] at hab; cases hab
        | some a =>
          cases b2 : bitsL (((chrs s).take (s.size - 1)).drop (p + 1)) with
          | none => rw [b1, b2] at hab; cases hab
          | some b =>
            rw [b1, b2] at hab
            simp only at hab
            split at hab
            · simp only [Option.some.injEq, Prod.mk.injEq] at hab; exact hab
            · cases hab
    · rw [if_neg h3] at h2
      have hPn : parse (chrs s) = none := by
        rw [hP, if_neg]
        rintro ⟨x, y⟩
        exact h3 (by rw [if_pos (by omega)]; exact y)
      refine fin _ _ _ _ _ h1 h2 hA (by simp) ?_ ?_
      · rw [hPn]; simp [setFin]
      · intro a b hab; rw [hPn] at hab; cases hab
  · rw [if_neg h] at h1
    have hPn : parse (chrs s) = none := by
      unfold parse; rw [chrs_length, if_neg]; rintro ⟨x, _⟩; omega
    have h2 := suffix_f (⟨#[]⟩ : ByteArray) 41 (by decide)
    rw [if_neg (by rw [byteArray_empty_chrs]; simp)] at h2
    refine fin _ _ _ _ _ h1 h2 (Nat.le_refl _) (by show 0 ≤ _; omega) ?_ ?_
    · rw [hPn]; simp [setFin]
    · intro a b hab; rw [hPn] at hab; cases hab

end Go.Proofs.Ytneadgionjlicaa.P

-- impl.set.text writes the text of a set.
namespace Go.Proofs.Ytneadgionjlicaa.P
open Go.RowKit Go.Proofs.YtneadgionjlicaaW.PrintWords Go.Proofs.YtneadgionjlicaaW.PrintLast Go.Proofs.YtneadgionjlicaaW.PrintMore
set_option linter.unusedVariables false
set_option linter.unusedSimpArgs false

theorem told_f (l : List Bool) (h : l.length ≤ 70368744177664) : impl_told.f l = some ⟨(l.map sgn).toArray⟩ := by unfold impl_told.f; rw [if_pos h]
theorem text_f (t r : List Bool) (hl : t.length + r.length ≤ 70368744177664) : Ev (fun k => impl_set_text.f k t r) (txt (t, r)) := by
  have hj : ∀ b : Bool, (b = true ↔ ¬ (t.length ≤ 60 ∧ r.length ≤ 60)) → Ev (fun k => impl_set_text.j0 k b t r) (txt (t, r)) := by
    intro b hb
    cases b with
    | true =>
      refine Ev.step (f := fun k => some ((⟨#[]⟩ : ByteArray), false)) (fun k => ?_) ?_
      · simp only [impl_set_text.j0]; rw [if_pos trivial]
      · unfold txt; rw [if_neg (hb.1 rfl)]; exact Ev.now _
    | false =>
      have hb2 : t.length ≤ 60 ∧ r.length ≤ 60 := Classical.byContradiction fun h => absurd (hb.2 h) (by decide)
      have e1 : (⟨(t.map sgn).toArray⟩ : ByteArray).size = t.length := by show (t.map sgn).toArray.size = _; simp
      have e2 : (⟨(r.map sgn).toArray⟩ : ByteArray).size = r.length := by show (r.map sgn).toArray.size = _; simp
      refine Ev.step (f := fun k => some (textOf t r, true)) (fun k => ?_) ?_
      · simp only [impl_set_text.j0]
        rw [if_neg (by decide), told_f t (by omega)]
        simp only [Option.bind_some]
        rw [if_pos (by omega), told_f r (by omega)]
        simp only [Option.bind_some]
        rw [if_pos (by omega), if_pos (by omega)]
        congr 2
      · rw [txt_ok hb2.1 hb2.2]; exact Ev.now _
  unfold impl_set_text.f
  by_cases h : t.length ≤ 60
  · have h1 := hj (decide ((r.length : Int) > 60)) (by rw [decide_eq_true_iff]; omega)
    refine Ev.congr (fun k => ?_) h1
    rw [if_neg (by omega)]
  · have h1 := hj true (by simp; intro h2; omega)
    refine Ev.congr (fun k => ?_) h1
    rw [if_pos (by omega)]

end Go.Proofs.Ytneadgionjlicaa.P

-- impl.turns and tidy come to the tidy form.
namespace Go.Proofs.Ytneadgionjlicaa.P
open Go.RowKit Go.Proofs.YtneadgionjlicaaW.PrintWords Go.Proofs.YtneadgionjlicaaW.PrintLast Go.Proofs.YtneadgionjlicaaW.PrintMore
set_option linter.unusedVariables false
set_option linter.unusedSimpArgs false
theorem turns_l0 (r : List Bool) (d : Nat) (hd : 0 < d) (hdl : d ≤ r.length) (hl : r.length ≤ 70368744177664) : ∀ (m i : Nat), i ≤ r.length → r.length - i = m →
    (∀ j, j < i → r.getD j false = r.getD (j % d) false) → ∃ b, Ev (fun k => impl_turns.l0 k r d r.length i) b ∧ (b = true ↔ IsPer r d) := by
  intro m
  induction m with
  | zero =>
    intro i h1 h2 h3
    have e : i = r.length := by omega
    refine ⟨((r.length : Int) % (d : Int)) == 0, Ev.step (f := fun k => some (((r.length : Int) % (d : Int)) == 0)) (fun k => ?_) (Ev.now _), ?_⟩
    · simp only [impl_turns.l0]; rw [if_neg (by omega), if_neg (by omega)]
    · have hm : (r.length : Int) % (d : Int) = ((r.length % d : Nat) : Int) := rfl
      rw [beq_iff_eq, hm]
      constructor
      · intro h; exact IsPer.of_mod (by omega) hd (fun j hj => h3 j (by omega))
      · intro h; have := h.1; omega
  | succ m ih =>
    intro i h1 h2 h3
    have hmod : Int.tmod (i : Int) (d : Int) = ((i % d : Nat) : Int) := by rw [Int.tmod_eq_emod_of_nonneg (by omega)]; rfl
    have hml := Nat.mod_lt i hd
    have hw : wrap64 ((i : Int) + 1) = ((i + 1 : Nat) : Int) := by rw [w64 (by omega) (by omega)]; omega
    by_cases he : r.getD i false = r.getD (i % d) false
    · obtain ⟨b, hb, hbi⟩ := ih (i + 1) (by omega) (by omega) (fun j hj => by
        rcases Nat.lt_or_ge j i with h | h
        · exact h3 j h
        · have : j = i := by omega
          subst this; exact he)
      refine ⟨b, Ev.step (fun k => ?_) hb, hbi⟩
      simp only [impl_turns.l0]
      rw [if_pos (by omega), if_pos (by omega), if_pos (by omega), if_neg (by omega), hmod, if_pos (by omega), if_pos (by omega), rdOf_nat, rdOf_nat, if_neg (by rw [he]; simp), hw]
    · refine ⟨false, Ev.step (f := fun k => some false) (fun k => ?_) (Ev.now _), ?_⟩
      · simp only [impl_turns.l0]
        rw [if_pos (by omega), if_pos (by omega), if_pos (by omega), if_neg (by omega), hmod, if_pos (by omega), if_pos (by omega), rdOf_nat, rdOf_nat, if_pos (by rw [bne_iff_ne]; exact he)]
      · constructor
        · intro h; exact absurd h (by decide)
        · intro h; exact absurd (h.mod hd i (by omega)) he
theorem turns_f (r : List Bool) (d : Nat) (hd : 0 < d) (hdl : d ≤ r.length) (hl : r.length ≤ 70368744177664) : ∃ b, Ev (fun k => impl_turns.f k r d) b ∧ (b = true ↔ IsPer r d) := by
  obtain ⟨b, h, hb⟩ := turns_l0 r d hd hdl hl _ 0 (by omega) rfl (fun j hj => by omega)
  exact ⟨b, by simpa [impl_turns.f] using h, hb⟩
theorem clone_f (l : List Bool) (h : l.length ≤ 70368744177664) : slices_Clone_bool_bool.f l = some l := by unfold slices_Clone_bool_bool.f; rw [if_pos h]

theorem tidy_l1 : ∀ (n : Nat) (t r : List Bool), t.length = n → Prim r → t.length + r.length ≤ 70368744177664 → ∃ t' r', Ev (fun k => impl_set_tidy.l1 k r.length t r) (t', r') ∧ Tidy t r t' r' := by
  intro n
  induction n with
  | zero =>
    intro t r hn hp hl
    have ht : t = [] := List.eq_nil_of_length_eq_zero hn
    subst ht
    refine ⟨[], r, Ev.step (f := fun k => some (([] : List Bool), r)) (fun k => ?_) (Ev.now _), ⟨hp, .inl rfl⟩, fun _ => rfl, Nat.le_refl _, Nat.le_refl _⟩
    simp only [impl_set_tidy.l1]; rw [if_neg (by simp)]
  | succ n ih =>
    intro t r hn hp hl
    have hr := hp.1
    have hpos := List.length_pos_iff.2 hr
    have ht : t ≠ [] := by intro e; rw [e] at hn; simp at hn
    have w1 : wrap64 ((t.length : Int) - 1) = ((t.length - 1 : Nat) : Int) := by rw [w64 (by omega) (by omega)]; omega
    have w2 : wrap64 ((r.length : Int) - 1) = ((r.length - 1 : Nat) : Int) := by rw [w64 (by omega) (by omega)]; omega
    by_cases he : t.getD (t.length - 1) false = r.getD (r.length - 1) false
    · obtain ⟨t', r', hev, htd⟩ := ih (t.take (t.length - 1)) (rotR r) (by rw [List.length_take]; omega) (prim_rot hp) (by rw [rotR_length hr, List.length_take]; omega)
      rw [rotR_length hr] at hev
      refine ⟨t', r', Ev.step (fun k => ?_) hev, htd.canon, fun x => by rw [htd.has, rot_has ht hr he], by have := htd.tl; rw [List.length_take] at this; omega, by have := htd.rl; rw [rotR_length hr] at this; omega⟩
      simp only [impl_set_tidy.l1]
      rw [if_pos (by omega), w1, w2, if_pos (by omega), if_pos (by omega), if_pos (by omega), if_pos (by omega), rdOf_nat, rdOf_nat, if_pos (by rw [he]; exact beq_self_eq_true _), if_pos (by omega)]
      simp only [Option.bind_some]
      rw [if_pos (by omega)]
      simp only [Int.toNat_natCast]
      rw [if_pos (by simp; omega)]
      rfl
    · refine ⟨t, r, Ev.step (f := fun k => some (t, r)) (fun k => ?_) (Ev.now _), ⟨hp, .inr he⟩, fun _ => rfl, Nat.le_refl _, Nat.le_refl _⟩
      simp only [impl_set_tidy.l1]
      rw [if_pos (by omega), w1, w2, if_pos (by omega), if_pos (by omega), if_pos (by omega), if_pos (by omega), rdOf_nat, rdOf_nat, if_neg (by rw [beq_iff_eq]; exact he)]

theorem tidy_l0 (t r : List Bool) (hr : r ≠ []) (hl : t.length + r.length ≤ 70368744177664) : ∀ (m d : Nat), 0 < d → d ≤ r.length → r.length - d = m → (∀ d', 0 < d' → d' < d → ¬ IsPer r d') →
    ∃ t' r', Ev (fun k => impl_set_tidy.l0 k d t r) (t', r') ∧ Tidy t r t' r' := by
  have hpos := List.length_pos_iff.2 hr
  have hn : IsPer r r.length := ⟨Nat.mod_self _, fun i a b => by omega⟩
  intro m
  induction m with
  | zero =>
    intro d h0 h1 h2 h3
    have e : d = r.length := by omega
    obtain ⟨b, hb, hbi⟩ := turns_f r d h0 h1 (by omega)
    have hbt : b = true := hbi.2 (by rw [e]; exact hn)
    have hp : IsPer r d := hbi.1 hbt
    subst hbt
    have hlt : (r.take d).length = d := by rw [List.length_take]; omega
    obtain ⟨t', r', hev, htd⟩ := tidy_l1 _ t (r.take d) rfl (prim_take h0 h1 hp h3) (by omega)
    rw [hlt] at hev
    refine ⟨t', r', Ev.step (f := fun k => (impl_turns.f k r d).bind fun t161 => (if t161 = true then impl_set_tidy.l1 k d t (r.take d) else (impl_set_tidy.l0 k (wrap64 (d + 1)) t r))) (fun k => ?_) (Ev.bind hb (by simpa using hev)), htd.canon, fun x => by rw [htd.has, take_has hp h0 h1], htd.tl, by have := htd.rl; omega⟩
    simp only [impl_set_tidy.l0]
    congr 1; funext x
    rw [clone_f _ (by omega)]
    simp only [Option.bind_some, Int.toNat_natCast]
    cases x with
    | true => rw [if_pos rfl, if_pos rfl, if_pos (by omega), if_pos (by omega), clone_f _ (by rw [hlt]; omega)]; rfl
    | false => rw [if_neg (by decide), if_neg (by decide)]
  | succ m ih =>
    intro d h0 h1 h2 h3
    obtain ⟨b, hb, hbi⟩ := turns_f r d h0 h1 (by omega)
    have hw : wrap64 ((d : Int) + 1) = ((d + 1 : Nat) : Int) := by rw [w64 (by omega) (by omega)]; omega
    have hlt : (r.take d).length = d := by rw [List.length_take]; omega
    have st : ∀ k, impl_set_tidy.l0 (k + 1) d t r = (impl_turns.f k r d).bind fun t161 => (if t161 = true then impl_set_tidy.l1 k d t (r.take d) else (impl_set_tidy.l0 k ((d + 1 : Nat) : Int) t r)) := fun k => by
      simp only [impl_set_tidy.l0]
      congr 1; funext x
      rw [clone_f _ (by omega)]
      simp only [Option.bind_some, Int.toNat_natCast]
      cases x with
      | true => rw [if_pos rfl, if_pos rfl, if_pos (by omega), if_pos (by omega), clone_f _ (by rw [hlt]; omega)]; rfl
      | false => rw [if_neg (by decide), if_neg (by decide), hw]
    by_cases hp : IsPer r d
    · have hbt := hbi.2 hp
      subst hbt
      obtain ⟨t', r', hev, htd⟩ := tidy_l1 _ t (r.take d) rfl (prim_take h0 h1 hp h3) (by omega)
      rw [hlt] at hev
      exact ⟨t', r', Ev.step st (Ev.bind hb (by simpa using hev)), htd.canon, fun x => by rw [htd.has, take_has hp h0 h1], htd.tl, by have := htd.rl; omega⟩
    · have hbt : b = false := by cases b; rfl; exact absurd (hbi.1 rfl) hp
      subst hbt
      obtain ⟨t', r', hev, htd⟩ := ih (d + 1) (by omega) (by omega) (by omega) (fun d' a b => by
            rcases Nat.lt_or_ge d' d with h | h
            · exact h3 d' a h
            · have : d' = d := by omega
              subst this; exact hp)
      exact ⟨t', r', Ev.step st (Ev.bind hb (by simpa using hev)), htd⟩
theorem tidy_f (t r : List Bool) (hr : r ≠ []) (hl : t.length + r.length ≤ 70368744177664) : ∃ t' r', Ev (fun k => impl_set_tidy.f k t r) (t', r') ∧ Tidy t r t' r' := by
  have hpos := List.length_pos_iff.2 hr
  obtain ⟨t', r', h, htd⟩ := tidy_l0 t r hr hl _ 1 (by omega) (by omega) rfl (fun d a b => by omega)
  exact ⟨t', r', by simpa [impl_set_tidy.f] using h, htd⟩

theorem tidy_cn (t r : List Bool) (hr : r ≠ []) (hl : t.length + r.length ≤ 70368744177664) : Ev (fun k => impl_set_tidy.f k t r) (cn (hasB t r)) := by
  obtain ⟨t', r', h, ht⟩ := tidy_f t r hr hl
  rw [ht.cn]; exact h

end Go.Proofs.Ytneadgionjlicaa.P

-- impl.made over a question that is answered: the tidy text of the set.
namespace Go.Proofs.Ytneadgionjlicaa.P
open Go.RowKit Go.Proofs.YtneadgionjlicaaW.PrintWords Go.Proofs.YtneadgionjlicaaW.PrintLast Go.Proofs.YtneadgionjlicaaW.PrintMore
set_option linter.unusedVariables false
set_option linter.unusedSimpArgs false

theorem made_calls (q : Nat → Bool) (m p : Nat) (hp : 0 < p) (hper : Per q m p) (hl : m + p ≤ 1000000) (g : Nat) (lb : Array Value) (w : World)
    (eg : ∀ args w, (callFunc g args).run Try.prog w = .ok (.enter g args) w)
    (hc : ∀ (W : World) (i : Nat), Below w.heap.size w W → i < m + p → Calls Try.prog g (#[.int .i64 i] ++ lb) W fun e w' => e = .returned (.bool (q i)) ∧ Below W.heap.size W w') :
    Calls Try.prog 44 #[.int .i64 m, .int .i64 p, .func (.func g) #[] lb] w fun e w' => e = .returned (.tuple #[.string (txt (cn q)).1, .bool (txt (cn q)).2]) ∧ Below w.heap.size w w' := by
  have hs := cn_spec hp hper
  have h1 := tidy_cn (mkT q m) (mkR q m p) (mkR_ne q hp) (by rw [mkT_length, mkR_length]; omega)
  rw [mk_has hp hper] at h1
  have h2 := text_f (cn q).1 (cn q).2 (by omega)
  obtain ⟨k, hk⟩ := (Ev.bind (f := fun k y => impl_set_text.f k y.1 y.2) h1 h2).rounds
  have := impl_made.calls k (mkT q m) (mkR q m p) (txt (cn q)).1 (txt (cn q)).2 g lb w eg (fun W i hW hi => ?_) (by rw [mkT_length, mkR_length]; omega) hk
  · rw [mkT_length, mkR_length] at this; exact this
  · rw [mkT_length, mkR_length] at hi
    rw [← mkT_add, mkT_get q hi]; exact hc W i hW hi

end Go.Proofs.Ytneadgionjlicaa.P

-- impl.MachSet: the set of the numbers that a machine takes.
namespace Go.Proofs.Ytneadgionjlicaa.P
open Go.RowKit Go.Proofs.YtneadgionjlicaaW.PrintWords Go.Proofs.YtneadgionjlicaaW.PrintLast Go.Proofs.YtneadgionjlicaaW.PrintMore
set_option linter.unusedVariables false
set_option linter.unusedSimpArgs false

/-- What impl.MachSet answers. -/
noncomputable def msr (l : List Int) (st en : Int) : ByteArray × Bool := if mok l st en = true then txt (cn (mq l st en)) else (⟨#[]⟩, false)
noncomputable def impl_MachSet.f (l : List Int) (st en : Int) : Option (ByteArray × Bool) := if l.length ≤ 1000000000000 then some (msr l st en) else none
theorem machSet_f {l : List Int} (h : l.length ≤ 1000000000000) (st en : Int) : impl_MachSet.f l st en = some (msr l st en) := by unfold impl_MachSet.f; rw [if_pos h]
theorem mall_pow {n : Nat} (h : 1 ≤ n ∧ n ≤ 5) : mall n = ((2 ^ n : Nat) : Int) - 1 := by
  rcases (show n = 1 ∨ n = 2 ∨ n = 3 ∨ n = 4 ∨ n = 5 by omega) with h | h | h | h | h <;> rw [h] <;> decide
/-- What a machine that is one has. -/
theorem mok_of {l : List Int} {st en : Int} (h : mok l st en = true) : (1 ≤ l.length ∧ l.length ≤ 5) ∧ Stt l l.length ∧ (∃ v : Nat, st = (v : Int) ∧ v < 2 ^ l.length) ∧ ∃ v : Nat, en = (v : Int) ∧ v < 2 ^ l.length := by
  unfold mok at h
  rw [Bool.and_eq_true, Bool.and_eq_true, Bool.and_eq_true, decide_eq_true_iff, decide_eq_true_iff, decide_eq_true_iff] at h
  obtain ⟨h1, h2, h3, h4⟩ := h
  have hm := mall_pow h1
  refine ⟨h1, fun i hi => ?_, ?_, ?_⟩
  · have h5 : 0 ≤ rd l (i : Int) ∧ rd l (i : Int) ≤ mall l.length := by
      by_cases h5 : 0 ≤ rd l (i : Int) ∧ rd l (i : Int) ≤ mall l.length
      · exact h5
      · have : anyI l (fun x => !decide (0 ≤ x ∧ x ≤ mall l.length)) = true := by
          unfold anyI
          exact dec_true ⟨i, hi, by show (!decide (0 ≤ rd l (i : Int) ∧ rd l (i : Int) ≤ mall l.length)) = true; rw [decide_eq_false h5]; rfl⟩
        rw [this] at h2; cases h2
    obtain ⟨v, hv⟩ := Int.eq_ofNat_of_zero_le h5.1
    exact ⟨v, hv, by omega⟩
  · obtain ⟨v, hv⟩ := Int.eq_ofNat_of_zero_le h3.1
    exact ⟨v, hv, by omega⟩
  · obtain ⟨v, hv⟩ := Int.eq_ofNat_of_zero_le h4.1
    exact ⟨v, hv, by omega⟩
theorem mok_shape {l : List Int} {st en : Int} (h : mok l st en = true) : ∃ T F, Shape l st T F ∧ T ≤ 32 := by
  obtain ⟨h1, h2, h3, _⟩ := mok_of h
  obtain ⟨T, F, h4, h5⟩ := shape_of (by omega) h2 h3
  have : 2 ^ l.length ≤ 2 ^ 5 := Nat.pow_le_pow_right (by omega) h1.2
  exact ⟨T, F, h4, by omega⟩

set_option maxHeartbeats 8000000 in
set_option maxRecDepth 100000 in
theorem machSet1_calls (l : List Int) (st en : Int) (T n : Nat) (hn : n < T) (A : Option Addr) (c gl gm : Nat) (W : World)
    (hl : W.cell? ⟨gl, 0, none⟩ = some (.slice A T c)) (hC : Kd.C (Kd.int .i64) W A (orbs l st T).length (orbs l st T)) (hm : W.cell? ⟨gm, 2, none⟩ = some (.int .i64 en)) :
    Calls Try.prog 45 #[.int .i64 n, .pointer (some ⟨gl, 0, none⟩), .pointer (some ⟨gm, 0, none⟩)] W fun e w' => e = .returned (.bool (mq l st en n)) ∧ Below W.heap.size W w' := by
  have hu := Try.underlying31
  have p1 : (0 : Int) ≤ (n : Int) := by omega
  have q0 : (n : Int) < ((orbs l st T).length : Int) := by rw [orbs_length]; omega
  have q1 : (n : Int) < (T : Int) := by omega
  obtain ⟨ad1, e1, hx1⟩ := Kd.at_int hC (n : Int) p1 q0
  rw [Int.toNat_natCast, orbs_rd l st hn] at hx1
  unfold mq
  generalize orb l st n = x at *
  clear hC q0
  cases e1
  go_enter Try.func45, Try.ntmps45
  go_wp2
  go_quiet (fail)
  all_goals go_wp2
  all_goals go_ret
  all_goals exact ⟨by first | rfl | simp, pw_below_drewN (Below.refl _ _) _⟩

set_option maxHeartbeats 16000000 in
set_option maxRecDepth 100000 in
theorem impl_MachSet.calls (A : Option Addr) (c : Nat) (l : List Int) (st en : Int) (r1 : ByteArray) (r2 : Bool) (w : World) (hC : Kd.C (Kd.int .i64) w A l.length l) (hc : l.length ≤ c) (h : impl_MachSet.f l st en = some (r1, r2)) :
    Calls Try.prog 18 #[.agg #[.slice A l.length c, .int .i64 st, .int .i64 en]] w fun e w' => e = .returned (.tuple #[.string r1, .bool r2]) ∧ Below w.heap.size w w' := by
  unfold impl_MachSet.f at h
  split at h
  rotate_left
  · cases h
  rename_i hbig
  simp only [Option.some.injEq] at h
  have hR : r1 = (msr l st en).1 ∧ r2 = (msr l st en).2 := by rw [h]; exact ⟨rfl, rfl⟩
  obtain ⟨rfl, rfl⟩ := hR
  clear h
  have hu := Try.underlying31
  have hin := machIn_f hbig st en
  have HC := Aside0.mk hC
  have HMI := fun (w' : World) (hC' : Kd.C (Kd.int .i64) w' A l.length l) => impl_MachIn.calls A c l st en (mok l st en) w' hC' hc hin
  cases hm : mok l st en with
  | false =>
    have e : msr l st en = (⟨#[]⟩, false) := by unfold msr; rw [hm]; rfl
    rw [e]
    rw [hm] at HMI
    have HMA := Aside0.mk HMI
    clear HMI hm e hin hC hbig hc
    go_enter Try.func18, Try.ntmps18
    go_wp2_with (go_at_call 40; with_reducible refine (HMA.out _ (Kd.C_below HC.out (below_alloc (Below.refl w.heap.size w) _))).mono ?_; rintro e w1 ⟨rfl, hd⟩; have HB := Aside0.mk (below_step (below_alloc (Below.refl w.heap.size w) _) hd); clear hd)
    go_ret2
    exact ⟨rfl, HB.out⟩
  | true =>
    have e : msr l st en = txt (cn (mq l st en)) := by unfold msr; rw [hm]; rfl
    rw [e]
    rw [hm] at HMI
    obtain ⟨T, F, hsh, hT⟩ := mok_shape hm
    have hlt := hsh.lt
    have hl5 := (mok_of hm).1
    have HMA := Aside0.mk HMI
    have hcN : ∀ i, i < T → ∃ k, slices_Contains_int_int.f k (orbs l st i) (orb l st i) = some false := fun i hi =>
      (cont_no (orbs l st i) (by rw [orbs_length]; omega) (orb l st i) (fun j hj => by rw [orbs_length] at hj; rw [orbs_rd l st hj]; exact hsh.new j i hj hi)).rounds
    have hfind : F < (orbs l st T).length ∧ rd (orbs l st T) (F : Int) = orb l st T ∧ ∀ j : Nat, j < F → rd (orbs l st T) (j : Int) ≠ orb l st T := by
      refine ⟨by rw [orbs_length]; exact hlt, by rw [orbs_rd l st hlt]; exact hsh.same.symm, fun j hj => ?_⟩
      rw [orbs_rd l st (by omega), hsh.same]; exact hsh.new j F hj hlt
    have hcY : ∃ k, slices_Contains_int_int.f k (orbs l st T) (orb l st T) = some true := (cont_yes (orbs l st T) (by rw [orbs_length]; omega) (orb l st T) F hfind.1 hfind.2.1 hfind.2.2).rounds
    have hcI : ∃ k, slices_Index_int_int.f k (orbs l st T) (orb l st T) = some (F : Int) := (index_at (orbs l st T) (by rw [orbs_length]; omega) (orb l st T) F hfind.1 hfind.2.1 hfind.2.2).rounds
    have hnx : ∀ x, ∃ k, impl_Machine_next.f k l st en x = some (nxt l x) := fun x => (next_f l (by omega) st en x).rounds
    have hsub : IntKind.i64.wrap ((T : Int) - (F : Int)) = ((T - F : Nat) : Int) := by rw [IntKind.wrap_i64]; omega
    have eg : ∀ args w, (callFunc 45 args).run Try.prog w = .ok (.enter 45 args) w := enters_of Try.func45 (by kernel_rfl) rfl
    have HM := fun (lb : Array Value) (w : World) => Aside0.mk (made_calls (mq l st en) F (T - F) (by omega) (hsh.per en) (by omega) 45 lb w eg)
    have HCN := Aside0.mk hcN
    have HCY := Aside0.mk hcY
    have HCI := Aside0.mk hcI
    have HNX := Aside0.mk hnx
    have HTT := Aside0.mk hT
    have HLT := Aside0.mk hlt
    have HCC := Aside0.mk hc
    clear HMI hm e hin hC hbig hc hcN hcY hcI hnx hfind hsh hT hlt hl5 eg
    go_enter Try.func18, Try.ntmps18
    go_wp2_with (go_at_call 40; with_reducible refine (HMA.out _ (Kd.C_below HC.out (below_alloc (Below.refl w.heap.size w) _))).mono ?_; rintro e w1 ⟨rfl, hd⟩; have HB1 := Aside0.mk (below_step (below_alloc (Below.refl w.heap.size w) _) hd); have BM := Aside0.mk (blk_below (blk_new w (.cells #[.slice A l.length c, .int .i64 st, .int .i64 en] 31 (0, 0))) hd); have m0 : w1.cell? ⟨w.heap.size, 0, none⟩ = some (.slice A l.length c) := (blk_cell BM.out 0).trans rfl; have m1 : w1.cell? ⟨w.heap.size, 1, none⟩ = some (.int .i64 st) := (blk_cell BM.out 1).trans rfl; have m2 : w1.cell? ⟨w.heap.size, 2, none⟩ = some (.int .i64 en) := (blk_cell BM.out 2).trans rfl; have l1 : w.heap.size < w1.heap.size := blk_lt BM.out; clear hd)
    go_loopg [5] T (fun gg s5 wr => ∃ i : Nat, i ≤ T ∧ T - i ≤ gg ∧ s5 = .int .i64 (orb l st i) ∧ Aside0 (Below w.heap.size w wr) ∧ Aside0 (wr.heap[w.heap.size]? = some (.cells #[.slice A l.length c, .int .i64 st, .int .i64 en] 31 (0, 0))) ∧ ∃ A1 c1, Aside0 (wr.heap[w1.heap.size]? = some (.cells #[.slice A1 i c1] 29 (0, 0))) ∧ Aside0 (Kd.R (Kd.int .i64) 3 wr w.heap.size (fun k => k ≠ w1.heap.size ∧ k ≠ w.heap.size) (.slice A1 i c1) (orbs l st i)) ∧ Aside0 (i ≤ c1))
    case atStart => exact ⟨0, Nat.zero_le _, by omega, rfl, ⟨below_alloc HB1.out _⟩, ⟨blk_alloc BM.out _⟩, none, 0, ⟨blk_new _ _⟩, ⟨Kd.R_nil _ _ _ _ _⟩, ⟨Nat.le_refl _⟩⟩
    case round =>
      obtain ⟨i, hi, hgg, rfl, HB, BMr, A1, c1, BL, HR, HK1⟩ := hrel
      have f0 : wr.cell? ⟨w1.heap.size, 0, none⟩ = some (.slice A1 i c1) := (blk_cell BL.out 0).trans rfl
      have hRr := Kd.R_reads' HR.out
      have hCR0 := hRr.2.2
      rw [orbs_length] at hCR0
      have hCR := Aside0.mk hCR0
      clear hRr hCR0
      rcases Nat.lt_or_ge i T with hlt | hge
      · obtain ⟨k1, hk1⟩ := HCN.out i hlt
        obtain ⟨k2, hk2⟩ := HNX.out (orb l st i)
        have HCont := Aside0.mk (fun (w' : World) (hC' : Kd.C (Kd.int .i64) w' A1 (orbs l st i).length (orbs l st i)) => slices_Contains_int_int.calls k1 A1 c1 (orbs l st i) (orb l st i) false w' hC' (by rw [orbs_length]; exact HK1.out) hk1)
        have HNxt := Aside0.mk (fun (w' : World) (hC' : Kd.C (Kd.int .i64) w' A l.length l) => impl_Machine_next.calls k2 A c l st en (orb l st i) (nxt l (orb l st i)) w' hC' HCC.out hk2)
        have hs1 : orb l st (i + 1) = nxt l (orb l st i) := rfl
        have HS1 := Aside0.mk hs1
        have HXS := Aside0.mk (orbs_succ l st i)
        rw [orbs_length] at HCont
        generalize orb l st i = x at *
        clear hk1 hk2 hs1
        go_wp2_with (first
          | (go_at_call 41; go_loud (refine (HCont.out _ hCR.out).mono ?_; rintro e w2 ⟨rfl, hd⟩; have hb := drawn0_below hd; have HB2 := Aside0.mk (below_step HB.out hb); have BM2 := Aside0.mk (blk_below BMr.out hb); have BL2 := Aside0.mk (blk_below BL.out hb); have HR2 := Aside0.mk (Kd.R_below HR.out hb); have f2 : w2.cell? ⟨w1.heap.size, 0, none⟩ = some (.slice A1 i c1) := (blk_cell BL2.out 0).trans rfl; clear hd hb))
          | ((with_reducible refine gate_builtin (b := .append) (xs := #[.tmp 17, .tmp 19]) rfl ?_); at_builtin; go_loud (refine Kd.R_append (Kd.int .i64) (w0 := w) w.heap.size rfl (.tmp 17) (.tmp 19) 29 3 (.int .i64 0) 8 rfl Try.underlying29 info3 rfl (by decide) (by omega) (.slice A1 i c1) (orbs l st i) x [.int .i64 x] (fun k => k ≠ w1.heap.size ∧ k ≠ w.heap.size) (fun _ => False) rfl rfl ?aP (fun _ hk => hk.elim) ?aF HR2.out HB2.out ?aS ?aL ?_; (case aP => exact rfl); (case aF => exact fun k hk => ⟨by have := blk_lt BL2.out; omega, by have := blk_lt BM2.out; omega⟩); (case aS => exact HB2.out.size); (case aL => have := HTT.out; rw [orbs_length]; omega); intro v1 w3 ho hb hg hat; rw [← HXS.out] at ho; obtain ⟨A2, c2, hv⟩ := Kd.R_slice ho; rw [orbs_length] at hv; subst hv; have BM3 := Aside0.mk (blk_grown BM2.out hg (Kd.R_away HR2.out (fun k hk => hk.2))); have BL3 := Aside0.mk (blk_grown BL2.out hg (Kd.R_away HR2.out (fun k hk => hk.1))); have f3 : w3.cell? ⟨w1.heap.size, 0, none⟩ = some (.slice A1 i c1) := (blk_cell BL3.out 0).trans rfl; have z3 : w3.frozen? ⟨w1.heap.size, 0, none⟩ = false := blk_frozen BL3.out 0; have hne : w.heap.size ≠ w1.heap.size := Nat.ne_of_lt l1; have BM4 := Aside0.mk (blk_far BM3.out (p := ⟨w1.heap.size, 0, none⟩) hne (.slice A2 (i + 1) c2)); have BL4 := Aside0.mk (blk_put BL3.out 0 (.slice A2 (i + 1) c2) rfl); have HR4 := Aside0.mk (Kd.R_far ho (p := ⟨w1.heap.size, 0, none⟩) (fun k hk => hk.1) (.slice A2 (i + 1) c2)); have HB4 := Aside0.mk (below_set (g := w1.heap.size) (j := 0) (v := .slice A2 (i + 1) c2) hb (Nat.le_of_lt l1)); have k4 : i + 1 ≤ c2 := by { have h9 := (Kd.R_reads' ho).2.1; exact h9 }; have K4 := Aside0.mk k4; have n0 : (w3.setCell ⟨w1.heap.size, 0, none⟩ (.slice A2 (i + 1) c2)).cell? ⟨w.heap.size, 0, none⟩ = some (.slice A l.length c) := (blk_cell BM4.out 0).trans rfl; have n1 : (w3.setCell ⟨w1.heap.size, 0, none⟩ (.slice A2 (i + 1) c2)).cell? ⟨w.heap.size, 1, none⟩ = some (.int .i64 st) := (blk_cell BM4.out 1).trans rfl; have n2 : (w3.setCell ⟨w1.heap.size, 0, none⟩ (.slice A2 (i + 1) c2)).cell? ⟨w.heap.size, 2, none⟩ = some (.int .i64 en) := (blk_cell BM4.out 2).trans rfl; clear ho hb hg hat k4 hne))
          | (go_at_call 42; go_loud (refine (HNxt.out _ (Kd.C_below HC.out HB4.out)).mono ?_; rintro e w5 ⟨rfl, hb5⟩; have HB5 := Aside0.mk (below_step HB4.out hb5); have BM5 := Aside0.mk (blk_below BM4.out hb5); have BL5 := Aside0.mk (blk_below BL4.out hb5); have HR5 := Aside0.mk (Kd.R_below HR4.out hb5); clear hb5)))
        go_roundg (T - (i + 1))
        case measure => omega
        case rel => exact ⟨i + 1, by omega, by omega, congrArg (Value.int .i64) HS1.out.symm, HB5, BM5, A2, c2, BL5, HR5, K4⟩
      · have e9 : i = T := by omega
        subst e9
        obtain ⟨k1, hk1⟩ := HCY.out
        obtain ⟨k2, hk2⟩ := HCI.out
        have HCont := Aside0.mk (fun (w' : World) (hC' : Kd.C (Kd.int .i64) w' A1 (orbs l st i).length (orbs l st i)) => slices_Contains_int_int.calls k1 A1 c1 (orbs l st i) (orb l st i) true w' hC' (by rw [orbs_length]; exact HK1.out) hk1)
        have HIdx := Aside0.mk (fun (w' : World) (hC' : Kd.C (Kd.int .i64) w' A1 (orbs l st i).length (orbs l st i)) => slices_Index_int_int.calls k2 A1 c1 (orbs l st i) (orb l st i) (F : Int) w' hC' (by rw [orbs_length]; exact HK1.out) hk2)
        have HLN := Aside0.mk (orbs_length l st i)
        rw [orbs_length] at HCont HIdx
        generalize orb l st i = x at *
        clear hk1 hk2
        go_wp2_with (first
          | (go_at_call 41; go_loud (refine (HCont.out _ hCR.out).mono ?_; rintro e w2 ⟨rfl, hd⟩; have hb := drawn0_below hd; have HB2 := Aside0.mk (below_step HB.out hb); have BM2 := Aside0.mk (blk_below BMr.out hb); have BL2 := Aside0.mk (blk_below BL.out hb); have HC2 := Aside0.mk (Kd.C_below hCR.out hb); have f2 : w2.cell? ⟨w1.heap.size, 0, none⟩ = some (.slice A1 i c1) := (blk_cell BL2.out 0).trans rfl; clear hd hb))
          | (go_at_call 43; go_loud (refine (HIdx.out _ HC2.out).mono ?_; rintro e w3 ⟨rfl, hd⟩; have hb := drawn0_below hd; have HB3 := Aside0.mk (below_step HB2.out hb); have BM3 := Aside0.mk (blk_below BM2.out hb); have BL3 := Aside0.mk (blk_below BL2.out hb); have HC3 := Aside0.mk (Kd.C_below HC2.out hb); have f3 : w3.cell? ⟨w1.heap.size, 0, none⟩ = some (.slice A1 i c1) := (blk_cell BL3.out 0).trans rfl; clear hd hb))
          | (go_at_call 44; go_loud (refine ((HM _ _).out ?hc).mono ?_; (case hc =>
                intro W n hW hn
                refine machSet1_calls l st en i n (by have := HLT.out; omega) A1 c1 w1.heap.size w.heap.size W ((hW.cell (p := ⟨w1.heap.size, 0, none⟩) (blk_lt BL3.out)).trans f3) ?_ ((hW.cell (p := ⟨w.heap.size, 2, none⟩) (blk_lt BM3.out)).trans ((blk_cell BM3.out 2).trans rfl))
                rw [HLN.out]
                exact Kd.C_below HC3.out hW); rintro e w4 ⟨rfl, hb4⟩; have HB4 := Aside0.mk (below_step HB3.out hb4); clear hb4)))
        go_ret2
        exact ⟨rfl, HB4.out⟩
end Go.Proofs.Ytneadgionjlicaa.P

-- impl.pair over a question of two truths: the tidy text of the set of all numbers of which it holds.
namespace Go.Proofs.Ytneadgionjlicaa.P
open Go.RowKit Go.Proofs.YtneadgionjlicaaW.PrintWords Go.Proofs.YtneadgionjlicaaW.PrintLast Go.Proofs.YtneadgionjlicaaW.PrintMore
set_option linter.unusedVariables false
set_option linter.unusedSimpArgs false

set_option maxHeartbeats 8000000 in
set_option maxRecDepth 100000 in
theorem pair_q_calls (gh : Nat) (lbh : Array Value) (egh : ∀ args w, (callFunc gh args).run Try.prog w = .ok (.enter gh args) w) (op : Bool → Bool → Bool) (b0 b1 b2 : Nat)
    (x y x2 y2 : List Bool) (hy : y ≠ []) (hy2 : y2 ≠ []) (hl : x.length ≤ 60 ∧ y.length ≤ 60) (hl2 : x2.length ≤ 60 ∧ y2.length ≤ 60) (A0 : Option Addr) (c0 : Nat) (A1 : Option Addr) (c1 : Nat) (A2 : Option Addr) (c2 : Nat) (A3 : Option Addr) (c3 n : Nat) (hn : n ≤ 1000000) (W : World)
    (h0 : W.cell? ⟨b0, 0, none⟩ = some (.func (.func gh) #[] lbh)) (hx0 : W.cell? ⟨b1, 0, none⟩ = some (.slice A0 x.length c0)) (hx1 : W.cell? ⟨b1, 1, none⟩ = some (.slice A1 y.length c1)) (hx2 : W.cell? ⟨b2, 0, none⟩ = some (.slice A2 x2.length c2)) (hx3 : W.cell? ⟨b2, 1, none⟩ = some (.slice A3 y2.length c3))
    (hC0 : Kd.C Kd.bool W A0 x.length x) (hc0 : x.length ≤ c0) (hC1 : Kd.C Kd.bool W A1 y.length y) (hc1 : y.length ≤ c1) (hC2 : Kd.C Kd.bool W A2 x2.length x2) (hc2 : x2.length ≤ c2) (hC3 : Kd.C Kd.bool W A3 y2.length y2) (hc3 : y2.length ≤ c3)
    (hb0 : b0 < W.heap.size) (hb1 : b1 < W.heap.size) (hb2 : b2 < W.heap.size)
    (hh : ∀ (W' : World) (p q : Bool), Below W.heap.size W W' → Calls Try.prog gh (#[.bool p, .bool q] ++ lbh) W' fun e w' => e = .returned (.bool (op p q)) ∧ Below W'.heap.size W' w') :
    Calls Try.prog 73 #[.int .i64 n, .pointer (some ⟨b0, 0, none⟩), .pointer (some ⟨b1, 0, none⟩), .pointer (some ⟨b2, 0, none⟩)] W fun e w' => e = .returned (.bool (op (hasB x y n) (hasB x2 y2 n))) ∧ Below W.heap.size W w' := by
  have hu := Try.underlying48
  have HC1 := fun (W' : World) (hw : Below W.heap.size W W') => Aside0.mk (impl_set_has.calls A0 c0 x A1 c1 y (n : Int) (hasB x y n) W' (Kd.C_below hC0 hw) hc0 (Kd.C_below hC1 hw) hc1 (ihas_f x y hy (by omega) n (by omega)))
  have HC2 := fun (W' : World) (hw : Below W.heap.size W W') => Aside0.mk (impl_set_has.calls A2 c2 x2 A3 c3 y2 (n : Int) (hasB x2 y2 n) W' (Kd.C_below hC2 hw) hc2 (Kd.C_below hC3 hw) hc3 (ihas_f x2 y2 hy2 (by omega) n (by omega)))
  have HH := fun (W' : World) (hw : Below W.heap.size W W') => Aside0.mk (hh W' (hasB x y n) (hasB x2 y2 n) hw)
  generalize hasB x y n = p at *
  generalize hasB x2 y2 n = q at *
  clear hh hC0 hC1 hC2 hC3 hc0 hc1 hc2 hc3 hl hl2 hy hy2 hn
  go_enter Try.func73, Try.ntmps73
  have HK : ∀ w', Below W.heap.size W w' → (w'.cell? ⟨b0, 0, none⟩ = some (.func (.func gh) #[] lbh) ∧ w'.cell? ⟨b1, 0, none⟩ = some (.slice A0 x.length c0) ∧ w'.cell? ⟨b1, 1, none⟩ = some (.slice A1 y.length c1) ∧ w'.cell? ⟨b2, 0, none⟩ = some (.slice A2 x2.length c2) ∧ w'.cell? ⟨b2, 1, none⟩ = some (.slice A3 y2.length c3) ∧ Below W.heap.size W w') := fun w' hw =>
    ⟨(hw.cell (p := ⟨b0, 0, none⟩) hb0).trans h0, (hw.cell (p := ⟨b1, 0, none⟩) hb1).trans hx0, (hw.cell (p := ⟨b1, 1, none⟩) hb1).trans hx1, (hw.cell (p := ⟨b2, 0, none⟩) hb2).trans hx2, (hw.cell (p := ⟨b2, 1, none⟩) hb2).trans hx3, hw⟩
  have HKA := Aside0.mk HK
  clear HK
  go_wp2
  go_region_held3 (fun w' => w'.cell? ⟨b0, 0, none⟩ = some (.func (.func gh) #[] lbh) ∧ w'.cell? ⟨b1, 0, none⟩ = some (.slice A0 x.length c0) ∧ w'.cell? ⟨b1, 1, none⟩ = some (.slice A1 y.length c1) ∧ w'.cell? ⟨b2, 0, none⟩ = some (.slice A2 x2.length c2) ∧ w'.cell? ⟨b2, 1, none⟩ = some (.slice A3 y2.length c3) ∧ Below W.heap.size W w')
    ((refine HKA.out _ ?_; go_split_ands; (first | exact Below.refl _ _ | assumption | exact below_step (by assumption) hd3 | exact below_step (by assumption) hd2 | exact below_step (by assumption) hd1 | (apply below_drew1; first | assumption | exact Below.refl _ _))))
    ((first
      | (go_at_call 35; go_split_ands; with_reducible refine (HC1 _ (by assumption)).out.mono ?_; rintro e w1 ⟨rfl, hd1⟩)
      | (go_at_call 35; go_split_ands; with_reducible refine (HC2 _ (by assumption)).out.mono ?_; rintro e w2 ⟨rfl, hd2⟩)
      | (go_at_fn gh; go_split_ands; refine (HH _ (by assumption)).out.mono ?_; rintro e w3 ⟨rfl, hd3⟩)))
  all_goals go_wp2
  all_goals go_ret
  all_goals (go_split_ands; exact ⟨rfl, by first | assumption | exact below_step (by assumption) hd3⟩)

set_option maxHeartbeats 8000000 in
set_option maxRecDepth 100000 in
theorem pair_calls (s t : ByteArray) (hs : s.size ≤ 70368744177664) (ht : t.size ≤ 70368744177664) (gh : Nat) (lbh : Array Value) (op : Bool → Bool → Bool) (w : World)
    (egh : ∀ args w, (callFunc gh args).run Try.prog w = .ok (.enter gh args) w)
    (hh : ∀ (W : World) (p q : Bool), Below w.heap.size w W → Calls Try.prog gh (#[.bool p, .bool q] ++ lbh) W fun e w' => e = .returned (.bool (op p q)) ∧ Below W.heap.size W w') :
    Calls Try.prog 49 #[.string s, .string t, .func (.func gh) #[] lbh] w fun e w' => e = .returned (.tuple #[.string (two op (chrs s) (chrs t)).1, .bool (two op (chrs s) (chrs t)).2]) ∧ Below w.heap.size w w' := by
  obtain ⟨x, y, hev, hxy⟩ := setOf_f s hs
  obtain ⟨x2, y2, hev2, hxy2⟩ := setOf_f t ht
  obtain ⟨k, hk⟩ := hev.rounds
  obtain ⟨k2, hk2⟩ := hev2.rounds
  have hu := Try.underlying48
  have HH := Aside0.mk hh
  clear hh hev hev2
  have key : ∀ (b b2 : Bool), (parse (chrs s)).isSome = b → (parse (chrs t)).isSome = b2 → Calls Try.prog 49 #[.string s, .string t, .func (.func gh) #[] lbh] w fun e w' => e = .returned (.tuple #[.string (two op (chrs s) (chrs t)).1, .bool (two op (chrs s) (chrs t)).2]) ∧ Below w.heap.size w w' := by
    intro b b2 hb hb2
    rw [hb] at hk
    rw [hb2] at hk2
    have HK := fun w => Aside0.mk (impl_setOf.calls k s x y b w hk)
    have HK2 := fun w => Aside0.mk (impl_setOf.calls k2 t x2 y2 b2 w hk2)
    by_cases hall : b = true ∧ b2 = true
    · obtain ⟨rfl, rfl⟩ := hall
      obtain ⟨⟨a, c⟩, hp⟩ := Option.isSome_iff_exists.1 hb
      obtain ⟨⟨a2, c2⟩, hp2⟩ := Option.isSome_iff_exists.1 hb2
      obtain ⟨rfl, rfl⟩ := hxy a c hp
      obtain ⟨rfl, rfl⟩ := hxy2 a2 c2 hp2
      have q1 := parse_some hp
      have q2 := parse_some hp2
      have hpos := List.length_pos_iff.2 q1.2.2
      have hpos2 := List.length_pos_iff.2 q2.2.2
      have e : two op (chrs s) (chrs t) = txt (cn fun n => op (hasB x y n) (hasB x2 y2 n)) := by
        unfold two; rw [hb, hb2, setf_some hp, setf_some hp2]; rfl
      rw [e]
      obtain ⟨k3, hk3⟩ := (both_f x y x2 y2 (by omega) (by omega) hpos).rounds
      have hL := lcm_small q1.2.1 q2.2.1
      have hL0 : 0 < Nat.lcm y.length y2.length := Nat.lcm_pos hpos hpos2
      have hper : Per (fun n => op (hasB x y n) (hasB x2 y2 n)) (max x.length x2.length) (Nat.lcm y.length y2.length) := pair_per ((hasB_per x y).lcm_left _ _) ((hasB_per x2 y2).lcm_right _ _) op
      have hM : max x.length x2.length ≤ 60 := by omega
      have eg : ∀ args w, (callFunc 73 args).run Try.prog w = .ok (.enter 73 args) w := enters_of Try.func73 (by kernel_rfl) rfl
      have HM := fun (lb : Array Value) (w : World) => Aside0.mk (made_calls (fun n => op (hasB x y n) (hasB x2 y2 n)) (max x.length x2.length) (Nat.lcm y.length y2.length) hL0 hper (by omega) 73 lb w eg)
      have HQ := Aside0.mk (show (x.length ≤ 60 ∧ y.length ≤ 60 ∧ y ≠ []) ∧ (x2.length ≤ 60 ∧ y2.length ≤ 60 ∧ y2 ≠ []) from ⟨q1, q2⟩)
      have HLL := Aside0.mk hL
      have HMM := Aside0.mk hM
      generalize max x.length x2.length = M at *
      generalize Nat.lcm y.length y2.length = L at *
      clear hb hb2 hp hp2 hxy hxy2 hk hk2 hper eg q1 q2 hpos hpos2 hL hL0 e hM
      go_enter Try.func49, Try.ntmps49
      go_wp2_with (first
        | (go_at_call 30; with_reducible refine (HK _).out.mono ?_; rintro e w1 ⟨v0_, v1_, rfl, hR0, hR1, hb1⟩; obtain ⟨A0, n0, rfl, hn0, hC0⟩ := Kd.R_reads hR0; obtain ⟨A1, n1, rfl, hn1, hC1⟩ := Kd.R_reads hR1; have C0 := Aside0.mk hC0; have C1 := Aside0.mk hC1; have N0 := Aside0.mk hn0; have N1 := Aside0.mk hn1; clear hR0 hR1 hC0 hC1 hn0 hn1; have HB := Aside0.mk (below_step (below_alloc (Below.refl w.heap.size w) _) hb1); have F0 := Aside0.mk ((hb1.cell (p := ⟨w.heap.size, 0, none⟩) (by simp)).trans (by simp : (w.alloc (.cells #[.func (.func gh) #[] lbh] _)).cell? ⟨w.heap.size, 0, none⟩ = some (.func (.func gh) #[] lbh))); have L0 := Aside0.mk (Nat.lt_of_lt_of_le (by simp) hb1.size : w.heap.size < w1.heap.size); clear hb1)
        | (go_at_call 30; with_reducible refine (HK2 _).out.mono ?_; rintro e w2 ⟨v2_, v3_, rfl, hR0, hR1, hb2⟩; obtain ⟨A2, n2, rfl, hn2, hC2⟩ := Kd.R_reads hR0; obtain ⟨A3, n3, rfl, hn3, hC3⟩ := Kd.R_reads hR1; have C2 := Aside0.mk hC2; have C3 := Aside0.mk hC3; have N2 := Aside0.mk hn2; have N3 := Aside0.mk hn3; clear hR0 hR1 hC2 hC3 hn2 hn3; have HB12 := Aside0.mk (below_step (below_alloc (Below.refl w1.heap.size w1) _) hb2); have e0 := (hb2.cell (p := ⟨w1.heap.size, 0, none⟩) (by simp)).trans (by simp : (w1.alloc (.cells #[.slice A0 x.length n0, .slice A1 y.length n1] _)).cell? ⟨w1.heap.size, 0, none⟩ = some (.slice A0 x.length n0)); have e1 := (hb2.cell (p := ⟨w1.heap.size, 1, none⟩) (by simp)).trans (by simp : (w1.alloc (.cells #[.slice A0 x.length n0, .slice A1 y.length n1] _)).cell? ⟨w1.heap.size, 1, none⟩ = some (.slice A1 y.length n1)); have E0 := Aside0.mk e0; have E1 := Aside0.mk e1; have l1 : w1.heap.size < w2.heap.size := Nat.lt_of_lt_of_le (by simp) hb2.size; have L1 := Aside0.mk l1; clear hb2)
        | (go_at_call 59; refine (impl_both.calls k3 A0 n0 x A1 n1 y A2 n2 x2 A3 n3 y2 _ _ _ (Kd.C_below C0.out (below_step HB12.out (below_alloc (Below.refl _ _) _))) N0.out (Kd.C_below C1.out (below_step HB12.out (below_alloc (Below.refl _ _) _))) N1.out (Kd.C_alloc C2.out _) N2.out (Kd.C_alloc C3.out _) N3.out hk3).mono ?_; rintro e w3 ⟨rfl, hb3⟩; have HB23 := Aside0.mk (below_step (below_alloc (Below.refl w2.heap.size w2) _) hb3); have G3 := Aside0.mk ((hb3.cell (p := ⟨w2.heap.size, 0, none⟩) (by simp)).trans (by simp : (w2.alloc (.cells #[.slice A2 x2.length n2, .slice A3 y2.length n3] _)).cell? ⟨w2.heap.size, 0, none⟩ = some (.slice A2 x2.length n2))); have G4 := Aside0.mk ((hb3.cell (p := ⟨w2.heap.size, 1, none⟩) (by simp)).trans (by simp : (w2.alloc (.cells #[.slice A2 x2.length n2, .slice A3 y2.length n3] _)).cell? ⟨w2.heap.size, 1, none⟩ = some (.slice A3 y2.length n3))); have L2 := Aside0.mk (Nat.lt_of_lt_of_le (by simp) hb3.size : w2.heap.size < w3.heap.size); clear hb3)
        | (go_at_call 44; refine ((HM _ _).out ?hc).mono ?_; (case hc =>
            intro W i hW hi
            have hBW := below_step HB23.out hW
            have hBW1 := below_step HB12.out hBW
            have hq := HQ.out
            have hl0 := L0.out
            have hl1 := L1.out
            have hl2 := L2.out
            have hs3 := hW.size
            have hL := HLL.out
            have hM := HMM.out
            exact pair_q_calls gh lbh egh op w.heap.size w1.heap.size w2.heap.size x y x2 y2 hq.1.2.2 hq.2.2.2 ⟨hq.1.1, hq.1.2.1⟩ ⟨hq.2.1, hq.2.2.1⟩ A0 n0 A1 n1 A2 n2 A3 n3 i (by omega) W
              ((hBW1.cell (p := ⟨w.heap.size, 0, none⟩) hl0).trans F0.out)
              ((hBW.cell (p := ⟨w1.heap.size, 0, none⟩) hl1).trans E0.out)
              ((hBW.cell (p := ⟨w1.heap.size, 1, none⟩) hl1).trans E1.out)
              ((hW.cell (p := ⟨w2.heap.size, 0, none⟩) hl2).trans G3.out)
              ((hW.cell (p := ⟨w2.heap.size, 1, none⟩) hl2).trans G4.out)
              (Kd.C_below C0.out hBW1) N0.out (Kd.C_below C1.out hBW1) N1.out (Kd.C_below C2.out hBW) N2.out (Kd.C_below C3.out hBW) N3.out (by omega) (by omega) (by omega)
              (fun W' p q hw => HH.out W' p q (below_step (below_step HB.out hBW1) hw))); rintro e w4 ⟨rfl, hb4⟩))
      go_ret2
      exact ⟨rfl, below_step (below_step HB.out (below_step HB12.out HB23.out)) hb4⟩
    · have e : two op (chrs s) (chrs t) = (⟨#[]⟩, false) := by
        unfold two; rw [hb, hb2, if_neg (by simpa using hall)]
      rw [e]
      have hcase : b = false ∨ (b = true ∧ b2 = false) := by
        cases b with
        | false => exact .inl rfl
        | true =>
          cases b2 with
          | false => exact .inr ⟨rfl, rfl⟩
          | true => exact absurd ⟨rfl, rfl⟩ hall
      clear hb hb2 hk hk2 hxy hxy2 hall e HH
      rcases hcase with rfl | ⟨rfl, rfl⟩
      all_goals
        go_enter Try.func49, Try.ntmps49
        go_wp2_with (first
          | (go_at_call 30; with_reducible refine (HK _).out.mono ?_; rintro e w1 ⟨v0_, v1_, rfl, hR0, hR1, hb1⟩; obtain ⟨A0, n0, rfl, hn0, hC0⟩ := Kd.R_reads hR0; obtain ⟨A1, n1, rfl, hn1, hC1⟩ := Kd.R_reads hR1; clear hR0 hR1 hC0 hC1 hn0 hn1; have HB := Aside0.mk (below_step (below_alloc (Below.refl w.heap.size w) _) hb1); clear hb1)
          | (go_at_call 30; with_reducible refine (HK2 _).out.mono ?_; rintro e w2 ⟨v2_, v3_, rfl, hR0, hR1, hb2⟩; obtain ⟨A2, n2, rfl, hn2, hC2⟩ := Kd.R_reads hR0; obtain ⟨A3, n3, rfl, hn3, hC3⟩ := Kd.R_reads hR1; clear hR0 hR1 hC2 hC3 hn2 hn3; have HB2 := Aside0.mk (below_step HB.out (below_step (below_alloc (Below.refl w1.heap.size w1) _) hb2)); clear hb2))
        go_ret2
        refine ⟨rfl, ?_⟩
        repeat (first | exact HB2.out | apply below_alloc | (refine below_set ?_ HB2.out.size))
  exact key _ _ rfl rfl
end Go.Proofs.Ytneadgionjlicaa.P

-- impl.MakeBoth.
namespace Go.Proofs.Ytneadgionjlicaa.P
open Go.RowKit Go.Proofs.YtneadgionjlicaaW.PrintWords Go.Proofs.YtneadgionjlicaaW.PrintLast Go.Proofs.YtneadgionjlicaaW.PrintMore
set_option linter.unusedVariables false
set_option linter.unusedSimpArgs false

noncomputable def impl_MakeBoth.f (s t : ByteArray) : Option (ByteArray × Bool) := if s.size ≤ 70368744177664 ∧ t.size ≤ 70368744177664 then some (two (fun x y => x && y) (chrs s) (chrs t)) else none
theorem makeBoth_f (s t : ByteArray) (hs : s.size ≤ 70368744177664) (ht : t.size ≤ 70368744177664) : impl_MakeBoth.f s t = some (two (fun x y => x && y) (chrs s) (chrs t)) := by unfold impl_MakeBoth.f; rw [if_pos ⟨hs, ht⟩]

set_option maxHeartbeats 8000000 in
theorem bothq_q_calls (p q : Bool) (W : World) :
    Calls Try.prog 50 #[.bool p, .bool q] W fun e w' => e = .returned (.bool (p && q)) ∧ Below W.heap.size W w' := by
  cases p <;> cases q
  all_goals
    go_enter Try.func50, Try.ntmps50
    go_wp2
    go_ret
    exact ⟨rfl, Below.refl _ _⟩

set_option maxHeartbeats 8000000 in
set_option maxRecDepth 100000 in
theorem impl_MakeBoth.calls (a0 a1 : ByteArray) (r1 : ByteArray) (r2 : Bool) (w : World) (h : impl_MakeBoth.f a0 a1 = some (r1, r2)) :
    Calls Try.prog 24 #[.string a0, .string a1] w fun e w' => e = .returned (.tuple #[.string r1, .bool r2]) ∧ Below w.heap.size w w' := by
  unfold impl_MakeBoth.f at h
  split at h
  · rename_i hs
    simp only [Option.some.injEq] at h
    have eg : ∀ args w, (callFunc 50 args).run Try.prog w = .ok (.enter 50 args) w := enters_of Try.func50 (by kernel_rfl) rfl
    have hx : ∀ w1 : World, Calls Try.prog 49 #[.string a0, .string a1, .func (.func 50) #[] #[]] w1 fun e w' => e = .returned (.tuple #[.string r1, .bool r2]) ∧ Below w1.heap.size w1 w' := by
      intro w1
      have := pair_calls a0 a1 hs.1 hs.2 50 #[] (fun x y => x && y) w1 eg (fun W p q _ => bothq_q_calls p q W)
      rw [h] at this
      exact this
    have HX := Aside0.mk hx
    clear hx h hs eg
    go_enter Try.func24, Try.ntmps24
    go_wp2_with (go_at_call 49; refine (HX.out _).mono ?_; rintro e w2 ⟨rfl, hb2⟩)
    go_ret2
    exact ⟨rfl, hb2⟩
  · cases h
end Go.Proofs.Ytneadgionjlicaa.P
