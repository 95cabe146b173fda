/- What these laws reach, joined by a program of this session: contracts (written by that program over the kit's print, or by hand) and plain lemmas. -/
import Derived.Shelf.Strings.Builder1
import Derived.Lib.Builder
import Derived.Lib.UnsafeStr
import Derived.Lib.Walk
import Derived.Laws.Externs
import Derived.BigCall
import Derived.Lib.Bytealg
import Derived.BigGuard
import Derived.Laws.AppendOwn
import Derived.Deep.RegionHeld3
import Derived.Deep.AppendLies
import Derived.Test.YticdcfgjpopkoaaK1
import Derived.Test.YticdcfgjpopkoaaK3
open Go.Proofs.YticdcfgjpopkoaaW.PrintWords renaming below_alloc → yA, pw_below_drewN → yB, below_drew1 → yC, below_set → yD, blk_drewN → yE, blk_drew → yF, blk_alloc → yG, below_step → yP, below_size → yQ
open Go.Proofs.YticdcfgjpopkoaaW.PrintWords.Kd renaming R_alloc → yH, R_drewN → yI, R_drew → yJ
open List renaming setIfInBounds_toArray → yK, set_cons_zero → yL, set_cons_succ → yM
namespace Go.Proofs.Yticdcfgjpopkoaa.P
open Go.RowKit Go.Proofs.YticdcfgjpopkoaaW.PrintWords Go.Proofs.YticdcfgjpopkoaaW.PrintLast Go.Proofs.YticdcfgjpopkoaaW.PrintMore
attribute [local go_sem] max2_int min2_int max_two min_two max_three min_three max_four min_four   -- for this text's walks alone
set_option linter.unusedVariables false
set_option linter.unusedSimpArgs false

/-! ### spec_StarParts: function 13 -/
mutual
def spec_StarParts.l0:Nat→List Int→List Bool→Int→List Bool→List Bool→Option (List Int × Bool)
 | 0,_,_,_,_,_=>none
 | k+1,x4,x7,x8,x473000,x473001=>if x8<300 then (spec_StarParts.l1 k x4 x7 x8 false 1 x473000 x473001) else (some (x4,true))
def spec_StarParts.l1:Nat→List Int→List Bool→Int→Bool→Int→List Bool→List Bool→Option (List Int × Bool)
 | 0,_,_,_,_,_,_,_=>none
 | k+1,x4,x7,x8,x9,x10,x473000,x473001=>if x10<x8 then (if x9=true then (spec_StarParts.l1 k x4 x7 x8 true (wrap64 (x10+1)) x473000 x473001) else (if 0≤x10 then (if x10<(x7.length:Int) then (if rdOf false x7 x10=true then (if 0≤(wrap64 (x8 - x10)) then (if (wrap64 (x8 - x10))<(x7.length:Int) then (spec_StarParts.l1 k x4 x7 x8 (rdOf false x7 (wrap64 (x8 - x10))) (wrap64 (x10+1)) x473000 x473001) else (none)) else (none)) else (spec_StarParts.l1 k x4 x7 x8 false (wrap64 (x10+1)) x473000 x473001)) else (none)) else (none))) else ((spec_l1Has.f x473000 x473001 x8).bind fun t478=>(if t478=true then (spec_StarParts.j2 k x4 x7 x8 (!x9) x473000 x473001) else (spec_StarParts.j2 k x4 x7 x8 false x473000 x473001)))
def spec_StarParts.j2:Nat→List Int→List Bool→Int→Bool→List Bool→List Bool→Option (List Int × Bool)
 | 0,_,_,_,_,_,_=>none
 | k+1,x4,x7,x8,x52,x473000,x473001=>if x52=true then (if x4.length<17592186044416 then (if x8 > 59 then (some ((([]:List Int)),false)) else (spec_StarParts.l0 k (x4++[x8]) x7 (wrap64 (x8+1)) x473000 x473001)) else (none)) else (spec_StarParts.l0 k x4 x7 (wrap64 (x8+1)) x473000 x473001)
end
def spec_StarParts.f (k:Nat) (a0:ByteArray):Option (List Int × Bool):=(some (([]:List Int):List Int)).bind fun y462=>((spec_l4Small.f k a0).bind fun bt465=>(if bt465.2.2=true then ((spec_l4Star.f k bt465.1 bt465.2.1 300).bind fun t473=>(spec_StarParts.l0 k y462 t473 1 bt465.1 bt465.2.1)) else (some (y462,false))))
theorem spec_StarParts.mono_l:∀ k,(∀ y0 y1 y2 y3 y4,LeO (spec_StarParts.l0 k y0 y1 y2 y3 y4) (spec_StarParts.l0 (k+1) y0 y1 y2 y3 y4))∧(∀ y0 y1 y2 y3 y4 y5 y6,LeO (spec_StarParts.l1 k y0 y1 y2 y3 y4 y5 y6) (spec_StarParts.l1 (k+1) y0 y1 y2 y3 y4 y5 y6))∧(∀ y0 y1 y2 y3 y4 y5,LeO (spec_StarParts.j2 k y0 y1 y2 y3 y4 y5) (spec_StarParts.j2 (k+1) y0 y1 y2 y3 y4 y5))
 | 0=>⟨fun _ _ _ _ _ r h=>by simp [spec_StarParts.l0] at h,fun _ _ _ _ _ _ _ r h=>by simp [spec_StarParts.l1] at h,fun _ _ _ _ _ _ r h=>by simp [spec_StarParts.j2] at h⟩
 | k+1=>by
  obtain ⟨ih0,ih1,ih2⟩:=spec_StarParts.mono_l k
  refine ⟨?_,?_,?_⟩
  ·intro y0 y1 y2 y3 y4
   unfold spec_StarParts.l0
   repeat' first
   | (with_reducible exact ih0 _ _ _ _ _)
   | (with_reducible exact ih1 _ _ _ _ _ _ _)
   | (with_reducible exact ih2 _ _ _ _ _ _)
   | (with_reducible exact spec_l4Small.mono _ _)
   | (with_reducible exact spec_l4Star.mono _ _ _ _)
   | (with_reducible exact LeO.refl _)
   | (with_reducible exact LeO.none _)
   | (with_reducible refine LeO.ite ?_ ?_)
   | (with_reducible refine LeO.bind ?_ (fun _=>?_))
   | exact ih0 _ _ _ _ _
   | exact ih1 _ _ _ _ _ _ _
   | exact ih2 _ _ _ _ _ _
   | exact spec_l4Small.mono _ _
   | exact spec_l4Star.mono _ _ _ _
   | exact LeO.none _
   | refine LeO.ite ?_ ?_
   | refine LeO.bind ?_ (fun _=>?_)
  ·intro y0 y1 y2 y3 y4 y5 y6
   unfold spec_StarParts.l1
   repeat' first
   | (with_reducible exact ih0 _ _ _ _ _)
   | (with_reducible exact ih1 _ _ _ _ _ _ _)
   | (with_reducible exact ih2 _ _ _ _ _ _)
   | (with_reducible exact spec_l4Small.mono _ _)
   | (with_reducible exact spec_l4Star.mono _ _ _ _)
   | (with_reducible exact LeO.refl _)
   | (with_reducible exact LeO.none _)
   | (with_reducible refine LeO.ite ?_ ?_)
   | (with_reducible refine LeO.bind ?_ (fun _=>?_))
   | exact ih0 _ _ _ _ _
   | exact ih1 _ _ _ _ _ _ _
   | exact ih2 _ _ _ _ _ _
   | exact spec_l4Small.mono _ _
   | exact spec_l4Star.mono _ _ _ _
   | exact LeO.none _
   | refine LeO.ite ?_ ?_
   | refine LeO.bind ?_ (fun _=>?_)
  ·intro y0 y1 y2 y3 y4 y5
   unfold spec_StarParts.j2
   repeat' first
   | (with_reducible exact ih0 _ _ _ _ _)
   | (with_reducible exact ih1 _ _ _ _ _ _ _)
   | (with_reducible exact ih2 _ _ _ _ _ _)
   | (with_reducible exact spec_l4Small.mono _ _)
   | (with_reducible exact spec_l4Star.mono _ _ _ _)
   | (with_reducible exact LeO.refl _)
   | (with_reducible exact LeO.none _)
   | (with_reducible refine LeO.ite ?_ ?_)
   | (with_reducible refine LeO.bind ?_ (fun _=>?_))
   | exact ih0 _ _ _ _ _
   | exact ih1 _ _ _ _ _ _ _
   | exact ih2 _ _ _ _ _ _
   | exact spec_l4Small.mono _ _
   | exact spec_l4Star.mono _ _ _ _
   | exact LeO.none _
   | refine LeO.ite ?_ ?_
   | refine LeO.bind ?_ (fun _=>?_)
theorem spec_StarParts.mono:∀ a0 k,LeO (spec_StarParts.f k a0) (spec_StarParts.f (k+1) a0):=by
 intro a0 k
 obtain ⟨ih0,ih1,ih2⟩:=spec_StarParts.mono_l k
 unfold spec_StarParts.f
 repeat' first
   | (with_reducible exact ih0 _ _ _ _ _)
   | (with_reducible exact ih1 _ _ _ _ _ _ _)
   | (with_reducible exact ih2 _ _ _ _ _ _)
   | (with_reducible exact spec_l4Small.mono _ _)
   | (with_reducible exact spec_l4Star.mono _ _ _ _)
   | (with_reducible exact LeO.refl _)
   | (with_reducible exact LeO.none _)
   | (with_reducible refine LeO.ite ?_ ?_)
   | (with_reducible refine LeO.bind ?_ (fun _=>?_))
   | exact ih0 _ _ _ _ _
   | exact ih1 _ _ _ _ _ _ _
   | exact ih2 _ _ _ _ _ _
   | exact spec_l4Small.mono _ _
   | exact spec_l4Star.mono _ _ _ _
   | exact LeO.none _
   | refine LeO.ite ?_ ?_
   | refine LeO.bind ?_ (fun _=>?_)
set_option maxHeartbeats 8000000 in
set_option maxRecDepth 100000 in
theorem spec_StarParts.calls (k:Nat) (a0:ByteArray) (r1:List Int) (r2:Bool) (w:World) (h:spec_StarParts.f k a0=some (r1,r2)) :
  Calls Try.prog 13 #[.string a0] w fun e w'=>∃ v0_:Value,e=.returned (.tuple #[v0_,.bool r2])∧Kd.R (Kd.int .i64) 3 w' w.heap.size (fun _=>True) v0_ r1∧Below w.heap.size w w':=by
 have hu46:=Try.underlying46
 have HB:=Aside0.mk (Below.refl w.heap.size w)
 have H:((some (([]:List Int):List Int)).bind fun y462=>((spec_l4Small.f k a0).bind fun bt465=>(if bt465.2.2=true then ((spec_l4Star.f k bt465.1 bt465.2.1 300).bind fun t473=>(spec_StarParts.l0 k y462 t473 1 bt465.1 bt465.2.1)) else (some (y462,false)))))=some (r1,r2):=h
 clear h
 obtain ⟨y462,hy462⟩:∃ y_:List Int,y_=(([]:List Int)):=⟨_,rfl⟩
 replace H:((spec_l4Small.f k a0).bind fun bt465=>(if bt465.2.2=true then ((spec_l4Star.f k bt465.1 bt465.2.1 300).bind fun t473=>(spec_StarParts.l0 k y462 t473 1 bt465.1 bt465.2.1)) else (some (y462,false))))=some (r1,r2):=by first|(rw [hy462];with_reducible exact H)|(have H2_:=(Option.bind_some _ _).symm.trans H;rw [hy462];with_reducible exact H2_)|(have H2_:=(Option.bind_some _ _).symm.trans H;with_reducible exact H2_)|with_reducible exact H|(rw [hy462];exact H)|exact H
 have Ny462:=Aside0.mk hy462
 clear hy462
 replace H:=Option.bind_eq_some_iff.mp H
 obtain ⟨⟨t465,t468,t471⟩,A20,H⟩:=H
 replace H:(if t471=true then ((spec_l4Star.f k t465 t468 300).bind fun t473=>(spec_StarParts.l0 k y462 t473 1 t465 t468)) else (some (y462,false)))=some (r1,r2):=H
 have A2:=Aside0.mk A20
 clear A20
 by_cases c3:t471=true
 ·subst c3
  have H1:((spec_l4Star.f k t465 t468 300).bind fun t473=>(spec_StarParts.l0 k y462 t473 1 t465 t468))=some (r1,r2):=by rw [if_pos rfl] at H;exact H
  clear H
  have H:=H1
  clear H1
  replace H:=Option.bind_eq_some_iff.mp H
  obtain ⟨t473,A40,H⟩:=H
  replace H:(spec_StarParts.l0 k y462 t473 1 t465 t468)=some (r1,r2):=H
  have A4:=Aside0.mk A40
  clear A40
  have H':=Aside0.mk H
  clear H
  go_enter Try.func13,Try.ntmps13
  go_wp2_with (first|((with_reducible refine gate_dst (N:=11) rfl ?_);refine Kd.R_lit (Kd.int .i64) _ 3 ?hg (N:=11) ?hd (xs:=([]:List Int)) (inner:=[]) (ok:=fun _=>True) (okp:=fun _=>True) ?hr ?hp (fun _ hk=>hk) trivial (Below.refl _ _) (Nat.le_refl _) (by simp) ?_;(case hd=>rfl);(case hg=>rfl);(case hr=>first|(go_simp;done)|(go_simp;rfl));(case hp=>exact (Reps.none _ _));intro v463 w5 ho6 hb hg_ hnew_;clear hg_ hnew_;(first|rw [← Ny462.out] at ho6|(simp only [Int.reduceToNat] at ho6;rw [← Ny462.out] at ho6));have n0_:=Aside0.mk (Kd.R_lower ho6 (yQ (by repeat (first|(with_reducible first|exact HB.out|apply yA|apply yB|apply yC)|exact HB.out))));have n1_:=Aside0.mk (yP (by repeat (first|(with_reducible first|exact HB.out|apply yA|apply yB|apply yC)|exact HB.out)) hb);clear HB;have HO464:=n0_;have HB:=n1_;clear n0_ n1_;clear hb ho6)|((with_reducible refine gate_callee (f:=24) rfl ?_);refine goesL_ (some 14) rfl rfl Try.func24 (by kernel_rfl) rfl #[.string a0] rfl (by (try simp only [List.map_toArray,List.map_cons,List.map_nil]);first|done|rfl|(simp only [List.length_drop,List.length_take];rfl)) ?_;(with_reducible refine (spec_l4Small.calls k a0 t465 t468 true _ A2.out).mono ?_);rintro e w7 ⟨v466,v469,rfl,ho0,ho1,hb⟩;refine ⟨_,rfl,?_⟩;have n0_:=Aside0.mk (Kd.R_below (by (with_reducible repeat (first|apply yH|apply yI|apply yJ));exact HO464.out) hb);have n1_:=Aside0.mk (Kd.V_lower (Kd.V_mono (ok':=fun k_=>some k_≠(v463:Value).ownBlock) ho0 (fun k_ hk_=>(Kd.fresh' (Kd.R_lt (by (with_reducible repeat (first|apply yH|apply yI|apply yJ));exact HO464.out)) k_ hk_))) (yQ (by repeat (first|(with_reducible first|exact HB.out|apply yA|apply yB|apply yC)|exact HB.out))));have n2_:=Aside0.mk (Kd.V_lower (Kd.V_mono (ok':=fun k_=>some k_≠(v463:Value).ownBlock) ho1 (fun k_ hk_=>(Kd.fresh' (Kd.R_lt (by (with_reducible repeat (first|apply yH|apply yI|apply yJ));exact HO464.out)) k_ hk_))) (yQ (by repeat (first|(with_reducible first|exact HB.out|apply yA|apply yB|apply yC)|exact HB.out))));have n3_:=Aside0.mk (yP (by repeat (first|(with_reducible first|exact HB.out|apply yA|apply yB|apply yC)|exact HB.out)) hb);clear HO464;clear HB;have HO464:=n0_;have HO467:=n1_;have HO470:=n2_;have HB:=n3_;clear n0_ n1_ n2_ n3_;(try clear hb);(try clear hb2);(try clear hk);(try clear hi);(try clear ho0);(try clear ho1))|((with_reducible refine gate_dst (N:=5) rfl ?_);refine box_event ?hg (N:=5) ?hd (cs:=#[.slice none 0 0,.slice none 0 0]) (t:=46) ?hr ?_;(case hd=>rfl);(case hg=>rfl);(case hr=>first|(go_simp;done)|(go_simp;rfl));intro gb472 hg w8 hbox hb;have n0_:=Aside0.mk (Kd.R_below (by (with_reducible repeat (first|apply yH|apply yI|apply yJ));exact HO464.out) hb);have n1_:=Aside0.mk (Kd.V_below (Kd.V_elderB (by (with_reducible repeat (first|apply Kd.V_alloc|apply Kd.V_drewN|apply Kd.V_drew));exact HO467.out) gb472 (Nat.le_of_eq hg.symm)) hb);have n2_:=Aside0.mk (Kd.V_below (Kd.V_elderB (by (with_reducible repeat (first|apply Kd.V_alloc|apply Kd.V_drewN|apply Kd.V_drew));exact HO470.out) gb472 (Nat.le_of_eq hg.symm)) hb);have n3_:=Aside0.mk (yP (by repeat (first|(with_reducible first|exact HB.out|apply yA|apply yB|apply yC)|exact HB.out)) hb);have n4_:=Aside0.mk (hbox);have n5_:=Aside0.mk ((by rw [hg];exact (yQ (by repeat (first|(with_reducible first|exact HB.out|apply yA|apply yB|apply yC)|exact HB.out))):w.heap.size≤gb472));have n6_:=Aside0.mk ((by rw [hg];exact (yQ (by repeat (first|(with_reducible first|exact HB.out|apply yA|apply yB|apply yC)|exact HB.out))):w.heap.size≤gb472));clear HO464;clear HO467;clear HO470;clear HB;have HO464:=n0_;have HO467:=n1_;have HO470:=n2_;have HB:=n3_;have BK472:=n4_;have GW472:=n5_;have GE472:=n6_;clear n0_ n1_ n2_ n3_ n4_ n5_ n6_;clear hb hbox hg;obtain ⟨Ao9,co9,eo9⟩:=Kd.V_slice HO467.out;subst eo9;have hcz10_0:w8.cell? ⟨gb472,0,none⟩=some (.slice none 0 0):=(blk_cell BK472.out 0).trans rfl;have hcz10_1:w8.cell? ⟨gb472,1,none⟩=some (.slice none 0 0):=(blk_cell BK472.out 1).trans rfl;have hfz10_0:=blk_frozen BK472.out 0;have hfz10_1:=blk_frozen BK472.out 1;obtain ⟨Ao11,co11,eo11⟩:=Kd.V_slice HO470.out;subst eo11)|((with_reducible refine gate_callee (f:=31) rfl ?_);refine goesL_ (some 21) rfl rfl Try.func31 (by kernel_rfl) rfl #[.agg #[.slice Ao9 t465.length co9,.slice Ao11 t468.length co11],.int .i64 300] rfl (by (try simp only [List.map_toArray,List.map_cons,List.map_nil]);first|done|rfl|(simp only [List.length_drop,List.length_take];rfl)) ?_;(with_reducible refine (spec_l4Star.calls k _ _ t465 _ _ t468 300 t473 _ ?side1 ?side2 ?side3 ?side4 A4.out).mono ?_);(case side1=>refine (Kd.V_reads' (e:=4) (base:=w.heap.size) (ok:=fun k_=>(some k_≠(v463:Value).ownBlock∧k_≠gb472)) (n:=t465.length) (c:=co9) ?_).2.2;exact (by (with_reducible repeat (first|apply Kd.V_alloc|apply Kd.V_drewN|apply Kd.V_drew));exact (Kd.V_mono (Kd.V_far (p:=⟨gb472,1,none⟩) (Kd.V_far (p:=⟨gb472,0,none⟩) (Kd.V_mono HO467.out (fun k_ hk=>(⟨hk,hk.2⟩:_∧k_≠gb472))) (fun _ hk=>hk.2) (.slice Ao9 t465.length co9)) (fun _ hk=>hk.2) (.slice Ao11 t468.length co11)) (fun _ h_=>h_.1))));(case side2=>exact (Kd.V_reads' HO467.out).2.1);(case side3=>refine (Kd.V_reads' (e:=4) (base:=w.heap.size) (ok:=fun k_=>(some k_≠(v463:Value).ownBlock∧k_≠gb472)) (n:=t468.length) (c:=co11) ?_).2.2;exact (by (with_reducible repeat (first|apply Kd.V_alloc|apply Kd.V_drewN|apply Kd.V_drew));exact (Kd.V_mono (Kd.V_far (p:=⟨gb472,1,none⟩) (Kd.V_far (p:=⟨gb472,0,none⟩) (Kd.V_mono HO470.out (fun k_ hk=>(⟨hk,hk.2⟩:_∧k_≠gb472))) (fun _ hk=>hk.2) (.slice Ao9 t465.length co9)) (fun _ hk=>hk.2) (.slice Ao11 t468.length co11)) (fun _ h_=>h_.1))));(case side4=>exact (Kd.V_reads' HO470.out).2.1);rintro e w12 ⟨v474,rfl,ho0,hb⟩;refine ⟨_,rfl,?_⟩;have n0_:=Aside0.mk (Kd.R_below (by (with_reducible repeat (first|apply yH|apply yI|apply yJ));exact (Kd.R_mono (Kd.R_far (p:=⟨gb472,1,none⟩) (Kd.R_far (p:=⟨gb472,0,none⟩) (Kd.R_types HO464.out BK472.out (by decide)) (fun _ hk=>hk.2) (.slice Ao9 t465.length co9)) (fun _ hk=>hk.2) (.slice Ao11 t468.length co11)) (fun _ h_=>h_.1))) hb);have n1_:=Aside0.mk (Kd.V_elder' (by (with_reducible repeat (first|apply Kd.V_alloc|apply Kd.V_drewN|apply Kd.V_drew));exact (Kd.V_mono (Kd.V_far (p:=⟨gb472,1,none⟩) (Kd.V_far (p:=⟨gb472,0,none⟩) (Kd.V_mono HO467.out (fun k_ hk=>(⟨hk,hk.2⟩:_∧k_≠gb472))) (fun _ hk=>hk.2) (.slice Ao9 t465.length co9)) (fun _ hk=>hk.2) (.slice Ao11 t468.length co11)) (fun _ h_=>h_.1))) (Kd.R_base ho0) hb);have n2_:=Aside0.mk (Kd.V_elder' (by (with_reducible repeat (first|apply Kd.V_alloc|apply Kd.V_drewN|apply Kd.V_drew));exact (Kd.V_mono (Kd.V_far (p:=⟨gb472,1,none⟩) (Kd.V_far (p:=⟨gb472,0,none⟩) (Kd.V_mono HO470.out (fun k_ hk=>(⟨hk,hk.2⟩:_∧k_≠gb472))) (fun _ hk=>hk.2) (.slice Ao9 t465.length co9)) (fun _ hk=>hk.2) (.slice Ao11 t468.length co11)) (fun _ h_=>h_.1))) (Kd.R_base ho0) hb);have n3_:=Aside0.mk (Kd.R_lower ho0 (yQ (by repeat (first|(with_reducible first|exact HB.out|apply yA|apply yB|apply yC|refine yD ?_ GE472.out)|exact HB.out))));have n4_:=Aside0.mk (blk_below (g:=gb472) (o:=.cells #[.slice Ao9 t465.length co9,.slice Ao11 t468.length co11] 46 (0,0)) (by (with_reducible repeat (first|refine yE ?_ _|refine yF ?_|refine yG ?_ _));refine blk_put (cs:=#[.slice Ao9 t465.length co9,.slice none 0 0]) ?_ 1 _ rfl;(with_reducible repeat (first|refine yE ?_ _|refine yF ?_|refine yG ?_ _));refine blk_put (cs:=#[.slice none 0 0,.slice none 0 0]) ?_ 0 _ rfl;(with_reducible repeat (first|refine yE ?_ _|refine yF ?_|refine yG ?_ _));exact BK472.out) hb);have n5_:=Aside0.mk (yP (by repeat (first|(with_reducible first|exact HB.out|apply yA|apply yB|apply yC|refine yD ?_ GE472.out)|exact HB.out)) hb);clear HO464;clear HO467;clear HO470;clear BK472;clear HB;have HO464:=n0_;have HO467:=n1_;have HO470:=n2_;have HO475:=n3_;have BK472:=n4_;have HB:=n5_;clear n0_ n1_ n2_ n3_ n4_ n5_;(try clear hb);(try clear hb2);(try clear hk);(try clear hi);(try clear ho0)))
  go_loopg [4,8] k (fun kq v4 v8 w'=>∃ (x4_1:List Int) (x8_1:Int),v8=.int .i64 x8_1∧Aside0 (spec_StarParts.l0 kq x4_1 t473 x8_1 t465 t468=some (r1,r2))∧Aside0 (kq≤k)∧Aside0 (Kd.R (Kd.int .i64) 3 w' w.heap.size (fun _=>True) v4 x4_1)∧Aside0 (Kd.R Kd.bool 4 w' w.heap.size (fun _=>True) v474 t473)∧Aside0 (Kd.V Kd.bool 4 w' w.heap.size (fun k_=>some k_≠(v4:Value).ownBlock∧some k_≠(v474:Value).ownBlock∧k_≠gb472) (.slice Ao9 t465.length co9) t465)∧Aside0 (Kd.V Kd.bool 4 w' w.heap.size (fun k_=>some k_≠(v4:Value).ownBlock∧some k_≠(v474:Value).ownBlock∧k_≠gb472) (.slice Ao11 t468.length co11) t468)∧Aside0 (w'.heap[gb472]?=some (.cells #[(.slice Ao9 t465.length co9),(.slice Ao11 t468.length co11)] 46 (0,0)))∧Aside0 (Below w.heap.size w w'))
  case atStart=>exact ⟨(y462),(1),(by first|rfl|(simp;done)|(simp [*];done)|(simp [Int.tmod_eq_emod_of_nonneg];done)),H',⟨Nat.le_refl _⟩,⟨by (with_reducible repeat (first|apply yH|apply yI|apply yJ));exact HO464.out⟩,⟨by (with_reducible repeat (first|apply yH|apply yI|apply yJ));exact HO475.out⟩,⟨by (with_reducible repeat (first|apply Kd.V_alloc|apply Kd.V_drewN|apply Kd.V_drew));exact Kd.V_mono HO467.out (fun _ hk=>⟨hk.1.1,⟨hk.2,hk.1.2⟩⟩)⟩,⟨by (with_reducible repeat (first|apply Kd.V_alloc|apply Kd.V_drewN|apply Kd.V_drew));exact Kd.V_mono HO470.out (fun _ hk=>⟨hk.1.1,⟨hk.2,hk.1.2⟩⟩)⟩,⟨by (with_reducible repeat (first|refine yE ?_ _|refine yF ?_|refine yG ?_ _));exact BK472.out⟩,⟨by repeat (first|(with_reducible first|exact HB.out|apply yA|apply yB|apply yC|refine yD ?_ GE472.out)|exact HB.out)⟩⟩
  case round =>
   clear H'
   try clear c1
   try clear c2
   try clear p2
   try clear c3
   try clear hcz10_0
   try clear hcz10_1
   try clear hfz10_0
   try clear hfz10_1
   obtain ⟨x4_1,x8_1,rfl,HA,HK1,HO_4,HO_7,HO_473000,HO_473001,BK472,HB⟩:=hrel
   cases gk with
   | zero=>exact absurd HA.out (by simp [spec_StarParts.l0])
   | succ k1 =>
    have H:=HA.out
    clear HA
    simp only [spec_StarParts.l0] at H
    by_cases c13:x8_1<300
    ·rw [if_pos c13] at H
     have c13b0:decide (x8_1<300)=true:=decide_eq_true c13
     clear c13
     have H':=Aside0.mk H
     clear H
     go_wp2
     go_loopg [9,10] k1 (fun kq v9 v10 w'=>∃ (x9_2:Bool) (x10_2:Int),v9=.bool x9_2∧v10=.int .i64 x10_2∧Aside0 (spec_StarParts.l1 kq x4_1 t473 x8_1 x9_2 x10_2 t465 t468=some (r1,r2))∧Aside0 (kq≤k1)∧Aside0 (Kd.R (Kd.int .i64) 3 w' w.heap.size (fun _=>True) u4 x4_1)∧Aside0 (Kd.R Kd.bool 4 w' w.heap.size (fun _=>True) v474 t473)∧Aside0 (Kd.V Kd.bool 4 w' w.heap.size (fun k_=>some k_≠(u4:Value).ownBlock∧some k_≠(v474:Value).ownBlock∧k_≠gb472) (.slice Ao9 t465.length co9) t465)∧Aside0 (Kd.V Kd.bool 4 w' w.heap.size (fun k_=>some k_≠(u4:Value).ownBlock∧some k_≠(v474:Value).ownBlock∧k_≠gb472) (.slice Ao11 t468.length co11) t468)∧Aside0 (w'.heap[gb472]?=some (.cells #[(.slice Ao9 t465.length co9),(.slice Ao11 t468.length co11)] 46 (0,0)))∧Aside0 (Below w.heap.size w w'))
     case atStart=>exact ⟨(false),(1),(by first|rfl|(simp;done)|(simp [*];done)|(simp [Int.tmod_eq_emod_of_nonneg];done)),(by first|rfl|(simp;done)|(simp [*];done)|(simp [Int.tmod_eq_emod_of_nonneg];done)),H',⟨Nat.le_refl _⟩,⟨by (with_reducible repeat (first|apply yH|apply yI|apply yJ));exact HO_4.out⟩,⟨by (with_reducible repeat (first|apply yH|apply yI|apply yJ));exact HO_7.out⟩,⟨by (with_reducible repeat (first|apply Kd.V_alloc|apply Kd.V_drewN|apply Kd.V_drew));exact HO_473000.out⟩,⟨by (with_reducible repeat (first|apply Kd.V_alloc|apply Kd.V_drewN|apply Kd.V_drew));exact HO_473001.out⟩,⟨by (with_reducible repeat (first|refine yE ?_ _|refine yF ?_|refine yG ?_ _));exact BK472.out⟩,⟨by repeat (first|(with_reducible first|exact HB.out|apply yA|apply yB|apply yC|refine yD ?_ GE472.out)|exact HB.out)⟩⟩
     case round =>
      clear H'
      try clear c1
      try clear c2
      try clear p2
      try clear c3
      try clear c13
      try clear c13b0
      try clear hcz10_0
      try clear hcz10_1
      try clear hfz10_0
      try clear hfz10_1
      try clear p2
      obtain ⟨x9_2,x10_2,rfl,rfl,HA,HK2,HO_4,HO_7,HO_473000,HO_473001,BK472,HB⟩:=hrel
      cases gk with
      | zero=>exact absurd HA.out (by simp [spec_StarParts.l1])
      | succ k2 =>
       have H:=HA.out
       clear HA
       simp only [spec_StarParts.l1] at H
       by_cases c14:x10_2<x8_1
       ·rw [if_pos c14] at H
        have c14b0:decide (x10_2<x8_1)=true:=decide_eq_true c14
        clear c14
        by_cases c15:x9_2=true
        ·subst c15
         have H1:(spec_StarParts.l1 k2 x4_1 t473 x8_1 true (wrap64 (x10_2+1)) t465 t468)=some (r1,r2):=by rw [if_pos rfl] at H;exact H
         clear H
         have H:=H1
         clear H1
         have H':=Aside0.mk H
         clear H
         go_wp2
         go_roundg k2
         case measure=>have:=HK1.out;have:=HK2.out;omega
         case rel=>exact ⟨(true),(wrap64 (x10_2+1)),(by first|rfl|(simp;done)|(simp [*];done)|(simp [Int.tmod_eq_emod_of_nonneg];done)),(by first|rfl|(simp;done)|(simp [*];done)|(simp [Int.tmod_eq_emod_of_nonneg];done)),H',⟨by have:=HK1.out;have:=HK2.out;omega⟩,⟨by (with_reducible repeat (first|apply yH|apply yI|apply yJ));exact HO_4.out⟩,⟨by (with_reducible repeat (first|apply yH|apply yI|apply yJ));exact HO_7.out⟩,⟨by (with_reducible repeat (first|apply Kd.V_alloc|apply Kd.V_drewN|apply Kd.V_drew));exact HO_473000.out⟩,⟨by (with_reducible repeat (first|apply Kd.V_alloc|apply Kd.V_drewN|apply Kd.V_drew));exact HO_473001.out⟩,⟨by (with_reducible repeat (first|refine yE ?_ _|refine yF ?_|refine yG ?_ _));exact BK472.out⟩,⟨by repeat (first|(with_reducible first|exact HB.out|apply yA|apply yB|apply yC|refine yD ?_ GE472.out)|exact HB.out)⟩⟩
        ·replace c15:=Bool.eq_false_iff.mpr c15
         subst c15
         have H1:(if 0≤x10_2 then (if x10_2<(t473.length:Int) then (if rdOf false t473 x10_2=true then (if 0≤(wrap64 (x8_1 - x10_2)) then (if (wrap64 (x8_1 - x10_2))<(t473.length:Int) then (spec_StarParts.l1 k2 x4_1 t473 x8_1 (rdOf false t473 (wrap64 (x8_1 - x10_2))) (wrap64 (x10_2+1)) t465 t468) else (none)) else (none)) else (spec_StarParts.l1 k2 x4_1 t473 x8_1 false (wrap64 (x10_2+1)) t465 t468)) else (none)) else (none))=some (r1,r2):=by rw [if_neg (show ¬ (false=true) by decide)] at H;exact H
         clear H
         have H:=H1
         clear H1
         by_cases c16:0≤x10_2
         ·rw [if_pos c16] at H
          have c16b0:decide (0≤x10_2)=true:=decide_eq_true c16
          clear c16
          by_cases c17:x10_2<(t473.length:Int)
          ·rw [if_pos c17] at H
           have c17b0:decide (x10_2<(t473.length:Int))=true:=decide_eq_true c17
           clear c17
           obtain ⟨bq18,hbq18⟩:∃ b_:Bool,b_=(rdOf false t473 x10_2):=⟨_,rfl⟩
           replace H:(if bq18=true then (if 0≤(wrap64 (x8_1 - x10_2)) then (if (wrap64 (x8_1 - x10_2))<(t473.length:Int) then (spec_StarParts.l1 k2 x4_1 t473 x8_1 (rdOf false t473 (wrap64 (x8_1 - x10_2))) (wrap64 (x10_2+1)) t465 t468) else (none)) else (none)) else (spec_StarParts.l1 k2 x4_1 t473 x8_1 false (wrap64 (x10_2+1)) t465 t468))=some (r1,r2):=by rw [← hbq18] at H;exact H
           have Nbq18:=Aside0.mk hbq18
           clear hbq18
           by_cases c19:bq18=true
           ·subst c19
            have H1:(if 0≤(wrap64 (x8_1 - x10_2)) then (if (wrap64 (x8_1 - x10_2))<(t473.length:Int) then (spec_StarParts.l1 k2 x4_1 t473 x8_1 (rdOf false t473 (wrap64 (x8_1 - x10_2))) (wrap64 (x10_2+1)) t465 t468) else (none)) else (none))=some (r1,r2):=by rw [if_pos rfl] at H;exact H
            clear H
            have H:=H1
            clear H1
            obtain ⟨ji20,hji20⟩:∃ j_:Int,(wrap64 (x8_1 - x10_2))=j_:=⟨_,rfl⟩
            replace H:(if 0≤(ji20) then (if (ji20)<(t473.length:Int) then (spec_StarParts.l1 k2 x4_1 t473 x8_1 (rdOf false t473 (ji20)) (wrap64 (x10_2+1)) t465 t468) else (none)) else (none))=some (r1,r2):=by first|(rw [hji20] at H;exact H)|(simp only [hji20] at H ⊢;exact H)
            have hji20w:(IntKind.i64.wrap (x8_1 - x10_2))=ji20:=(i64_w _).trans hji20
            by_cases c21:0≤(ji20)
            ·rw [if_pos c21] at H
             have c21b0:decide (0≤(ji20))=true:=decide_eq_true c21
             clear c21
             by_cases c22:(ji20)<(t473.length:Int)
             ·rw [if_pos c22] at H
              have c22b0:decide ((ji20)<(t473.length:Int))=true:=decide_eq_true c22
              clear c22
              have H':=Aside0.mk H
              clear H
              obtain ⟨Ao23,co23,eo23⟩:=Kd.R_slice HO_7.out
              subst eo23
              have p476:0≤(x10_2:Int):=of_decide_eq_true (by first|(with_reducible assumption)|assumption)
              have q476:x10_2<(t473.length:Int):=of_decide_eq_true (by first|(with_reducible assumption)|assumption)
              obtain ⟨ad476,e476,hx476_0⟩:=Kd.at_bool (Kd.R_reads' HO_7.out).2.2 x10_2 p476 q476
              (try rw [← Nbq18.out] at hx476_0)
              cases e476
              replace p476:=eq_true p476
              replace q476:=eq_true q476
              have p477:0≤((ji20):Int):=of_decide_eq_true (by first|(with_reducible assumption)|assumption)
              have q477:(ji20)<(t473.length:Int):=of_decide_eq_true (by first|(with_reducible assumption)|assumption)
              obtain ⟨ad477,e477,hx477_0⟩:=Kd.at_bool (Kd.R_reads' HO_7.out).2.2 (ji20) p477 q477
              (try rw [← Nbq18.out] at hx477_0)
              obtain rfl:ad476=ad477:=(by injection e477)
              replace p477:=eq_true p477
              replace q477:=eq_true q477
              go_wp2
              go_roundg k2
              case measure=>have:=HK1.out;have:=HK2.out;omega
              case rel=>exact ⟨(rdOf false t473 (ji20)),(wrap64 (x10_2+1)),(by first|rfl|(simp;done)|(simp only [← hji20]<;>(first|rfl|simp))|(simp [*];done)),(by first|rfl|(simp;done)|(simp [*];done)|(simp [Int.tmod_eq_emod_of_nonneg];done)),H',⟨by have:=HK1.out;have:=HK2.out;omega⟩,⟨by (with_reducible repeat (first|apply yH|apply yI|apply yJ));exact HO_4.out⟩,⟨by (with_reducible repeat (first|apply yH|apply yI|apply yJ));exact HO_7.out⟩,⟨by (with_reducible repeat (first|apply Kd.V_alloc|apply Kd.V_drewN|apply Kd.V_drew));exact HO_473000.out⟩,⟨by (with_reducible repeat (first|apply Kd.V_alloc|apply Kd.V_drewN|apply Kd.V_drew));exact HO_473001.out⟩,⟨by (with_reducible repeat (first|refine yE ?_ _|refine yF ?_|refine yG ?_ _));exact BK472.out⟩,⟨by repeat (first|(with_reducible first|exact HB.out|apply yA|apply yB|apply yC|refine yD ?_ GE472.out)|exact HB.out)⟩⟩
             ·rw [if_neg c22] at H
              exact absurd H (by simp)
            ·rw [if_neg c21] at H
             exact absurd H (by simp)
           ·replace c19:=Bool.eq_false_iff.mpr c19
            subst c19
            have H1:(spec_StarParts.l1 k2 x4_1 t473 x8_1 false (wrap64 (x10_2+1)) t465 t468)=some (r1,r2):=by rw [if_neg (show ¬ (false=true) by decide)] at H;exact H
            clear H
            have H:=H1
            clear H1
            have H':=Aside0.mk H
            clear H
            obtain ⟨Ao24,co24,eo24⟩:=Kd.R_slice HO_7.out
            subst eo24
            have p476:0≤(x10_2:Int):=of_decide_eq_true (by first|(with_reducible assumption)|assumption)
            have q476:x10_2<(t473.length:Int):=of_decide_eq_true (by first|(with_reducible assumption)|assumption)
            obtain ⟨ad476,e476,hx476_0⟩:=Kd.at_bool (Kd.R_reads' HO_7.out).2.2 x10_2 p476 q476
            (try rw [← Nbq18.out] at hx476_0)
            cases e476
            replace p476:=eq_true p476
            replace q476:=eq_true q476
            go_wp2
            go_roundg k2
            case measure=>have:=HK1.out;have:=HK2.out;omega
            case rel=>exact ⟨(false),(wrap64 (x10_2+1)),(by first|rfl|(simp;done)|(simp [*];done)|(simp [Int.tmod_eq_emod_of_nonneg];done)),(by first|rfl|(simp;done)|(simp [*];done)|(simp [Int.tmod_eq_emod_of_nonneg];done)),H',⟨by have:=HK1.out;have:=HK2.out;omega⟩,⟨by (with_reducible repeat (first|apply yH|apply yI|apply yJ));exact HO_4.out⟩,⟨by (with_reducible repeat (first|apply yH|apply yI|apply yJ));exact HO_7.out⟩,⟨by (with_reducible repeat (first|apply Kd.V_alloc|apply Kd.V_drewN|apply Kd.V_drew));exact HO_473000.out⟩,⟨by (with_reducible repeat (first|apply Kd.V_alloc|apply Kd.V_drewN|apply Kd.V_drew));exact HO_473001.out⟩,⟨by (with_reducible repeat (first|refine yE ?_ _|refine yF ?_|refine yG ?_ _));exact BK472.out⟩,⟨by repeat (first|(with_reducible first|exact HB.out|apply yA|apply yB|apply yC|refine yD ?_ GE472.out)|exact HB.out)⟩⟩
          ·rw [if_neg c17] at H
           exact absurd H (by simp)
         ·rw [if_neg c16] at H
          exact absurd H (by simp)
       ·rw [if_neg c14] at H
        have c14b0:decide (x10_2<x8_1)=false:=decide_eq_false c14
        clear c14
        have HC25:=Aside0.mk H
        clear H
        go_upto_region 14 with (fail)
        go_cut [52] (fun v52 wc=>∃ (kq:Nat) (x52_24:Bool),v52=.bool x52_24∧Aside0 (spec_StarParts.j2 kq x4_1 t473 x8_1 x52_24 t465 t468=some (r1,r2))∧Aside0 (kq≤k2)∧Aside0 (Kd.R (Kd.int .i64) 3 wc w.heap.size (fun _=>True) u4 x4_1)∧Aside0 (Kd.R Kd.bool 4 wc w.heap.size (fun _=>True) v474 t473)∧Aside0 (Kd.V Kd.bool 4 wc w.heap.size (fun k_=>some k_≠(u4:Value).ownBlock∧some k_≠(v474:Value).ownBlock∧k_≠gb472) (.slice Ao9 t465.length co9) t465)∧Aside0 (Kd.V Kd.bool 4 wc w.heap.size (fun k_=>some k_≠(u4:Value).ownBlock∧some k_≠(v474:Value).ownBlock∧k_≠gb472) (.slice Ao11 t468.length co11) t468)∧Aside0 (wc.heap[gb472]?=some (.cells #[(.slice Ao9 t465.length co9),(.slice Ao11 t468.length co11)] 46 (0,0)))∧Aside0 (Below w.heap.size w wc))
        case first =>
         have H:=HC25.out
         clear HC25
         replace H:=Option.bind_eq_some_iff.mp H
         obtain ⟨t478,A260,H⟩:=H
         replace H:(if t478=true then (spec_StarParts.j2 k2 x4_1 t473 x8_1 (!x9_2) t465 t468) else (spec_StarParts.j2 k2 x4_1 t473 x8_1 false t465 t468))=some (r1,r2):=H
         have A26:=Aside0.mk A260
         clear A260
         by_cases c27:t478=true
         ·subst c27
          have H1:(spec_StarParts.j2 k2 x4_1 t473 x8_1 (!x9_2) t465 t468)=some (r1,r2):=by rw [if_pos rfl] at H;exact H
          clear H
          have H:=H1
          clear H1
          have H':=Aside0.mk H
          clear H
          have hcz28_0:wr.cell? ⟨gb472,0,none⟩=some (.slice Ao9 t465.length co9):=(blk_cell BK472.out 0).trans rfl
          have hcz28_1:wr.cell? ⟨gb472,1,none⟩=some (.slice Ao11 t468.length co11):=(blk_cell BK472.out 1).trans rfl
          have hfz28_0:=blk_frozen BK472.out 0
          have hfz28_1:=blk_frozen BK472.out 1
          go_wp2_with (first|((with_reducible refine gate_callee (f:=32) rfl ?_);refine goesL_ (some 48) rfl rfl Try.func32 (by kernel_rfl) rfl #[.agg #[.slice Ao9 t465.length co9,.slice Ao11 t468.length co11],.int .i64 x8_1] rfl (by (try simp only [List.map_toArray,List.map_cons,List.map_nil]);first|done|rfl|(simp only [List.length_drop,List.length_take];rfl)) ?_;(with_reducible refine (spec_l1Has.calls _ _ t465 _ _ t468 x8_1 true _ ?side1 ?side2 ?side3 ?side4 A26.out).mono ?_);(case side1=>repeat (first|exact (Kd.V_reads' HO_473000.out).2.2|(with_reducible refine Kd.C_alloc ?_ _)|(with_reducible refine Kd.C_drewN ?_ _)|(with_reducible refine Kd.C_drew ?_)));(case side2=>exact (Kd.V_reads' HO_473000.out).2.1);(case side3=>repeat (first|exact (Kd.V_reads' HO_473001.out).2.2|(with_reducible refine Kd.C_alloc ?_ _)|(with_reducible refine Kd.C_drewN ?_ _)|(with_reducible refine Kd.C_drew ?_)));(case side4=>exact (Kd.V_reads' HO_473001.out).2.1);rintro e w29 ⟨rfl,hb⟩;refine ⟨_,rfl,?_⟩;have n0_:=Aside0.mk (Kd.R_below (by (with_reducible repeat (first|apply yH|apply yI|apply yJ));exact HO_4.out) hb);have n1_:=Aside0.mk (Kd.R_below (by (with_reducible repeat (first|apply yH|apply yI|apply yJ));exact HO_7.out) hb);have n2_:=Aside0.mk (Kd.V_below (by (with_reducible repeat (first|apply Kd.V_alloc|apply Kd.V_drewN|apply Kd.V_drew));exact HO_473000.out) hb);have n3_:=Aside0.mk (Kd.V_below (by (with_reducible repeat (first|apply Kd.V_alloc|apply Kd.V_drewN|apply Kd.V_drew));exact HO_473001.out) hb);have n4_:=Aside0.mk (blk_below (g:=gb472) (o:=.cells #[.slice Ao9 t465.length co9,.slice Ao11 t468.length co11] 46 (0,0)) (by (with_reducible repeat (first|refine yE ?_ _|refine yF ?_|refine yG ?_ _));exact BK472.out) hb);have n5_:=Aside0.mk (yP (by repeat (first|(with_reducible first|exact HB.out|apply yA|apply yB|apply yC|refine yD ?_ GE472.out)|exact HB.out)) hb);clear HO_4;clear HO_7;clear HO_473000;clear HO_473001;clear BK472;clear HB;have HO_4:=n0_;have HO_7:=n1_;have HO_473000:=n2_;have HO_473001:=n3_;have BK472:=n4_;have HB:=n5_;clear n0_ n1_ n2_ n3_ n4_ n5_;(try clear hb);(try clear hb2);(try clear hk);(try clear hi)))
          go_meet
          case rel=>exact ⟨_,(!x9_2),(by first|rfl|(simp;done)|(simp [*];done)|(simp [Int.tmod_eq_emod_of_nonneg];done)),H',⟨by have:=HK1.out;have:=HK2.out;first|omega|exact Nat.le_refl _⟩,⟨by (with_reducible repeat (first|apply yH|apply yI|apply yJ));exact HO_4.out⟩,⟨by (with_reducible repeat (first|apply yH|apply yI|apply yJ));exact HO_7.out⟩,⟨by (with_reducible repeat (first|apply Kd.V_alloc|apply Kd.V_drewN|apply Kd.V_drew));exact HO_473000.out⟩,⟨by (with_reducible repeat (first|apply Kd.V_alloc|apply Kd.V_drewN|apply Kd.V_drew));exact HO_473001.out⟩,⟨by (with_reducible repeat (first|refine yE ?_ _|refine yF ?_|refine yG ?_ _));exact BK472.out⟩,⟨by repeat (first|(with_reducible first|exact HB.out|apply yA|apply yB|apply yC|refine yD ?_ GE472.out)|exact HB.out)⟩⟩
         ·replace c27:=Bool.eq_false_iff.mpr c27
          subst c27
          have H1:(spec_StarParts.j2 k2 x4_1 t473 x8_1 false t465 t468)=some (r1,r2):=by rw [if_neg (show ¬ (false=true) by decide)] at H;exact H
          clear H
          have H:=H1
          clear H1
          have H':=Aside0.mk H
          clear H
          have hcz30_0:wr.cell? ⟨gb472,0,none⟩=some (.slice Ao9 t465.length co9):=(blk_cell BK472.out 0).trans rfl
          have hcz30_1:wr.cell? ⟨gb472,1,none⟩=some (.slice Ao11 t468.length co11):=(blk_cell BK472.out 1).trans rfl
          have hfz30_0:=blk_frozen BK472.out 0
          have hfz30_1:=blk_frozen BK472.out 1
          go_wp2_with (first|((with_reducible refine gate_callee (f:=32) rfl ?_);refine goesL_ (some 48) rfl rfl Try.func32 (by kernel_rfl) rfl #[.agg #[.slice Ao9 t465.length co9,.slice Ao11 t468.length co11],.int .i64 x8_1] rfl (by (try simp only [List.map_toArray,List.map_cons,List.map_nil]);first|done|rfl|(simp only [List.length_drop,List.length_take];rfl)) ?_;(with_reducible refine (spec_l1Has.calls _ _ t465 _ _ t468 x8_1 false _ ?side1 ?side2 ?side3 ?side4 A26.out).mono ?_);(case side1=>repeat (first|exact (Kd.V_reads' HO_473000.out).2.2|(with_reducible refine Kd.C_alloc ?_ _)|(with_reducible refine Kd.C_drewN ?_ _)|(with_reducible refine Kd.C_drew ?_)));(case side2=>exact (Kd.V_reads' HO_473000.out).2.1);(case side3=>repeat (first|exact (Kd.V_reads' HO_473001.out).2.2|(with_reducible refine Kd.C_alloc ?_ _)|(with_reducible refine Kd.C_drewN ?_ _)|(with_reducible refine Kd.C_drew ?_)));(case side4=>exact (Kd.V_reads' HO_473001.out).2.1);rintro e w31 ⟨rfl,hb⟩;refine ⟨_,rfl,?_⟩;have n0_:=Aside0.mk (Kd.R_below (by (with_reducible repeat (first|apply yH|apply yI|apply yJ));exact HO_4.out) hb);have n1_:=Aside0.mk (Kd.R_below (by (with_reducible repeat (first|apply yH|apply yI|apply yJ));exact HO_7.out) hb);have n2_:=Aside0.mk (Kd.V_below (by (with_reducible repeat (first|apply Kd.V_alloc|apply Kd.V_drewN|apply Kd.V_drew));exact HO_473000.out) hb);have n3_:=Aside0.mk (Kd.V_below (by (with_reducible repeat (first|apply Kd.V_alloc|apply Kd.V_drewN|apply Kd.V_drew));exact HO_473001.out) hb);have n4_:=Aside0.mk (blk_below (g:=gb472) (o:=.cells #[.slice Ao9 t465.length co9,.slice Ao11 t468.length co11] 46 (0,0)) (by (with_reducible repeat (first|refine yE ?_ _|refine yF ?_|refine yG ?_ _));exact BK472.out) hb);have n5_:=Aside0.mk (yP (by repeat (first|(with_reducible first|exact HB.out|apply yA|apply yB|apply yC|refine yD ?_ GE472.out)|exact HB.out)) hb);clear HO_4;clear HO_7;clear HO_473000;clear HO_473001;clear BK472;clear HB;have HO_4:=n0_;have HO_7:=n1_;have HO_473000:=n2_;have HO_473001:=n3_;have BK472:=n4_;have HB:=n5_;clear n0_ n1_ n2_ n3_ n4_ n5_;(try clear hb);(try clear hb2);(try clear hk);(try clear hi)))
          go_meet
          case rel=>exact ⟨_,(false),(by first|rfl|(simp;done)|(simp [*];done)|(simp [Int.tmod_eq_emod_of_nonneg];done)),H',⟨by have:=HK1.out;have:=HK2.out;first|omega|exact Nat.le_refl _⟩,⟨by (with_reducible repeat (first|apply yH|apply yI|apply yJ));exact HO_4.out⟩,⟨by (with_reducible repeat (first|apply yH|apply yI|apply yJ));exact HO_7.out⟩,⟨by (with_reducible repeat (first|apply Kd.V_alloc|apply Kd.V_drewN|apply Kd.V_drew));exact HO_473000.out⟩,⟨by (with_reducible repeat (first|apply Kd.V_alloc|apply Kd.V_drewN|apply Kd.V_drew));exact HO_473001.out⟩,⟨by (with_reducible repeat (first|refine yE ?_ _|refine yF ?_|refine yG ?_ _));exact BK472.out⟩,⟨by repeat (first|(with_reducible first|exact HB.out|apply yA|apply yB|apply yC|refine yD ?_ GE472.out)|exact HB.out)⟩⟩
        case rest =>
         clear HC25
         try clear c1
         try clear q1
         try clear c2
         try clear p2
         try clear c3
         try clear p4
         try clear q4
         try clear hx4
         try clear p6
         try clear c13
         try clear c13b0
         try clear c14
         try clear c14b0
         try clear c15
         try clear c16
         try clear c16b0
         try clear c17
         try clear c17b0
         try clear q18
         try clear c19
         try clear c21
         try clear c21b0
         try clear c22
         try clear c22b0
         try clear c24
         try clear c27
         try clear c31
         try clear hcz10_0
         try clear hcz10_1
         try clear hcz28_0
         try clear hcz28_1
         try clear hcz30_0
         try clear hcz30_1
         try clear hfz10_0
         try clear hfz10_1
         try clear hfz28_0
         try clear hfz28_1
         try clear hfz30_0
         try clear hfz30_1
         try clear hx476_0
         try clear hx477_0
         try clear p2
         try clear p476
         try clear p477
         try clear q476
         try clear q477
         obtain ⟨kq,x52_24,rfl,HA,HJ24,HO_4,HO_7,HO_473000,HO_473001,BK472,HB⟩:=hcut
         cases kq with
         | zero=>exact absurd HA.out (by simp [spec_StarParts.j2])
         | succ kj24 =>
          have H:=HA.out
          clear HA
          simp only [spec_StarParts.j2] at H
          by_cases c32:x52_24=true
          ·subst c32
           have H1:(if x4_1.length<17592186044416 then (if x8_1 > 59 then (some ((([]:List Int)),false)) else (spec_StarParts.l0 kj24 (x4_1++[x8_1]) t473 (wrap64 (x8_1+1)) t465 t468)) else (none))=some (r1,r2):=by rw [if_pos rfl] at H;exact H
           clear H
           have H:=H1
           clear H1
           by_cases c33:x4_1.length<17592186044416
           ·rw [if_pos c33] at H
            have LMc33:=Aside0.mk c33
            clear c33
            obtain ⟨y479,hy479⟩:∃ y_:List Int,y_=(x4_1++[x8_1]):=⟨_,rfl⟩
            replace H:(if x8_1 > 59 then (some ((([]:List Int)),false)) else (spec_StarParts.l0 kj24 y479 t473 (wrap64 (x8_1+1)) t465 t468))=some (r1,r2):=by first|(rw [hy479];with_reducible exact H)|(have H2_:=(Option.bind_some _ _).symm.trans H;rw [hy479];with_reducible exact H2_)|(have H2_:=(Option.bind_some _ _).symm.trans H;with_reducible exact H2_)|with_reducible exact H|(rw [hy479];exact H)|exact H
            have Ny479:=Aside0.mk hy479
            clear hy479
            by_cases c34:x8_1 > 59
            ·rw [if_pos c34] at H
             have c34b0:decide (59<x8_1)=true:=decide_eq_true c34
             clear c34
             obtain ⟨y482,hy482⟩:∃ y_:List Int,y_=(([]:List Int)):=⟨_,rfl⟩
             replace H:(some (y482,false))=some (r1,r2):=by first|(rw [hy482];with_reducible exact H)|(have H2_:=(Option.bind_some _ _).symm.trans H;rw [hy482];with_reducible exact H2_)|(have H2_:=(Option.bind_some _ _).symm.trans H;with_reducible exact H2_)|with_reducible exact H|(rw [hy482];exact H)|exact H
             have Ny482:=Aside0.mk hy482
             clear hy482
             simp only [Option.some.injEq,Prod.mk.injEq] at H
             obtain ⟨rfl,rfl⟩:=H
             go_wp2_with (first|((with_reducible refine gate_builtin (b:=.append) (xs:=#[.tmp 53,.tmp 55]) rfl ?_);at_builtin;refine Kd.R_append (Kd.int .i64) (w0:=w) w.heap.size rfl (.tmp 53) (.tmp 55) 29 3 (.int .i64 0) 8 rfl Try.underlying29 info3 rfl (by decide) (by omega) u4 x4_1 x8_1 [.int .i64 x8_1] (fun _=>True) (fun _=>False) rfl rfl ?aP (fun _ hk=>hk.elim) ?aF ?aO ?aB ?aS ?aL ?_;(case aP=>exact rfl);(case aB=>exact (by repeat (first|(with_reducible first|exact HB.out|apply yA|apply yB|apply yC|refine yD ?_ GE472.out)|exact HB.out)));(case aF=>exact (fun _ _=>trivial));(case aO=>exact (by (with_reducible repeat (first|apply yH|apply yI|apply yJ));exact HO_4.out));(case aS=>exact (yQ (by repeat (first|(with_reducible first|exact HB.out|apply yA|apply yB|apply yC|refine yD ?_ GE472.out)|exact HB.out))));(case aL=>have:=LMc33.out;omega);intro v480 w35 ho hb hg hat;rw [← Ny479.out] at ho;have n0_:=Aside0.mk (Kd.R_over' (by (with_reducible repeat (first|apply yH|apply yI|apply yJ));exact HO_7.out) (Kd.R_typed (by (with_reducible repeat (first|apply yH|apply yI|apply yJ));exact HO_4.out)) (by decide) hg);have n1_:=Aside0.mk (Kd.V_afterv (ok:=(fun k_=>some k_≠(v474:Value).ownBlock∧k_≠gb472)) (by (with_reducible repeat (first|apply Kd.V_alloc|apply Kd.V_drewN|apply Kd.V_drew));exact Kd.V_mono HO_473000.out (fun _ hk=>⟨⟨hk.2.1,hk.2.2⟩,hk.1⟩)) hg hat);have n2_:=Aside0.mk (Kd.V_afterv (ok:=(fun k_=>some k_≠(v474:Value).ownBlock∧k_≠gb472)) (by (with_reducible repeat (first|apply Kd.V_alloc|apply Kd.V_drewN|apply Kd.V_drew));exact Kd.V_mono HO_473001.out (fun _ hk=>⟨⟨hk.2.1,hk.2.2⟩,hk.1⟩)) hg hat);have n3_:=Aside0.mk (blk_grown (g:=gb472) (o:=.cells #[.slice Ao9 t465.length co9,.slice Ao11 t468.length co11] 46 (0,0)) (by (with_reducible repeat (first|refine yE ?_ _|refine yF ?_|refine yG ?_ _));exact BK472.out) hg (Kd.R_ne HO_4.out BK472.out (by decide)));have n4_:=Aside0.mk (hb);have n5_:=Aside0.mk (ho);clear HO_7;clear HO_473000;clear HO_473001;clear BK472;clear HB;clear HO_4;have HO_7:=n0_;have HO_473000:=n1_;have HO_473001:=n2_;have BK472:=n3_;have HB:=n4_;have HO481:=n5_;clear n0_ n1_ n2_ n3_ n4_ n5_;clear ho hb hg hat)|((with_reducible refine gate_dst (N:=59) rfl ?_);refine Kd.R_lit (Kd.int .i64) _ 3 ?hg (N:=59) ?hd (xs:=([]:List Int)) (inner:=[]) (ok:=fun _=>True) (okp:=fun _=>True) ?hr ?hp (fun _ hk=>hk) trivial (Below.refl _ _) (Nat.le_refl _) (by simp) ?_;(case hd=>rfl);(case hg=>rfl);(case hr=>first|(go_simp;done)|(go_simp;rfl));(case hp=>exact (Reps.none _ _));intro v483 w36 ho37 hb hg_ hnew_;clear hg_ hnew_;(first|rw [← Ny482.out] at ho37|(simp only [Int.reduceToNat] at ho37;rw [← Ny482.out] at ho37));have n0_:=Aside0.mk (Kd.R_below (by (with_reducible repeat (first|apply yH|apply yI|apply yJ));exact HO_7.out) hb);have n1_:=Aside0.mk (Kd.V_elder' (by (with_reducible repeat (first|apply Kd.V_alloc|apply Kd.V_drewN|apply Kd.V_drew));exact HO_473000.out) (Kd.R_base ho37) hb);have n2_:=Aside0.mk (Kd.V_elder' (by (with_reducible repeat (first|apply Kd.V_alloc|apply Kd.V_drewN|apply Kd.V_drew));exact HO_473001.out) (Kd.R_base ho37) hb);have n3_:=Aside0.mk (Kd.R_elder' (by (with_reducible repeat (first|apply yH|apply yI|apply yJ));exact HO481.out) (Kd.R_base ho37) hb);have n4_:=Aside0.mk (Kd.R_lower (Kd.R_new' ho37 (Kd.R_lt (by (with_reducible repeat (first|apply yH|apply yI|apply yJ));exact HO481.out))) (yQ (by repeat (first|(with_reducible first|exact HB.out|apply yA|apply yB|apply yC|refine yD ?_ GE472.out)|exact HB.out))));have n5_:=Aside0.mk (blk_below (g:=gb472) (o:=.cells #[.slice Ao9 t465.length co9,.slice Ao11 t468.length co11] 46 (0,0)) (by (with_reducible repeat (first|refine yE ?_ _|refine yF ?_|refine yG ?_ _));exact BK472.out) hb);have n6_:=Aside0.mk (yP (by repeat (first|(with_reducible first|exact HB.out|apply yA|apply yB|apply yC|refine yD ?_ GE472.out)|exact HB.out)) hb);clear HO_7;clear HO_473000;clear HO_473001;clear HO481;clear BK472;clear HB;have HO_7:=n0_;have HO_473000:=n1_;have HO_473001:=n2_;have HO481:=n3_;have HO484:=n4_;have BK472:=n5_;have HB:=n6_;clear n0_ n1_ n2_ n3_ n4_ n5_ n6_;clear hb ho37))
             go_ret2
             exact ⟨_,by first|rfl|(simp [errW_none,errW_some]<;>rfl)|(simp [*,errW_none,errW_some]<;>rfl)|(simp [errW_none,errW_some];exact ⟨rfl,rfl⟩),by (with_reducible repeat (first|apply yH|apply yI|apply yJ));exact Kd.R_mono HO484.out (fun _ hk=>trivial),by repeat (first|(with_reducible first|exact HB.out|apply yA|apply yB|apply yC|refine yD ?_ GE472.out)|exact HB.out)⟩
            ·rw [if_neg c34] at H
             have c34b0:decide (59<x8_1)=false:=decide_eq_false c34
             clear c34
             have H':=Aside0.mk H
             clear H
             go_wp2_with (first|((with_reducible refine gate_builtin (b:=.append) (xs:=#[.tmp 53,.tmp 55]) rfl ?_);at_builtin;refine Kd.R_append (Kd.int .i64) (w0:=w) w.heap.size rfl (.tmp 53) (.tmp 55) 29 3 (.int .i64 0) 8 rfl Try.underlying29 info3 rfl (by decide) (by omega) u4 x4_1 x8_1 [.int .i64 x8_1] (fun _=>True) (fun _=>False) rfl rfl ?aP (fun _ hk=>hk.elim) ?aF ?aO ?aB ?aS ?aL ?_;(case aP=>exact rfl);(case aB=>exact (by repeat (first|(with_reducible first|exact HB.out|apply yA|apply yB|apply yC|refine yD ?_ GE472.out)|exact HB.out)));(case aF=>exact (fun _ _=>trivial));(case aO=>exact (by (with_reducible repeat (first|apply yH|apply yI|apply yJ));exact HO_4.out));(case aS=>exact (yQ (by repeat (first|(with_reducible first|exact HB.out|apply yA|apply yB|apply yC|refine yD ?_ GE472.out)|exact HB.out))));(case aL=>have:=LMc33.out;omega);intro v480 w38 ho hb hg hat;rw [← Ny479.out] at ho;have n0_:=Aside0.mk (Kd.R_over' (by (with_reducible repeat (first|apply yH|apply yI|apply yJ));exact HO_7.out) (Kd.R_typed (by (with_reducible repeat (first|apply yH|apply yI|apply yJ));exact HO_4.out)) (by decide) hg);have n1_:=Aside0.mk (Kd.V_afterv (ok:=(fun k_=>some k_≠(v474:Value).ownBlock∧k_≠gb472)) (by (with_reducible repeat (first|apply Kd.V_alloc|apply Kd.V_drewN|apply Kd.V_drew));exact Kd.V_mono HO_473000.out (fun _ hk=>⟨⟨hk.2.1,hk.2.2⟩,hk.1⟩)) hg hat);have n2_:=Aside0.mk (Kd.V_afterv (ok:=(fun k_=>some k_≠(v474:Value).ownBlock∧k_≠gb472)) (by (with_reducible repeat (first|apply Kd.V_alloc|apply Kd.V_drewN|apply Kd.V_drew));exact Kd.V_mono HO_473001.out (fun _ hk=>⟨⟨hk.2.1,hk.2.2⟩,hk.1⟩)) hg hat);have n3_:=Aside0.mk (blk_grown (g:=gb472) (o:=.cells #[.slice Ao9 t465.length co9,.slice Ao11 t468.length co11] 46 (0,0)) (by (with_reducible repeat (first|refine yE ?_ _|refine yF ?_|refine yG ?_ _));exact BK472.out) hg (Kd.R_ne HO_4.out BK472.out (by decide)));have n4_:=Aside0.mk (hb);have n5_:=Aside0.mk (ho);clear HO_7;clear HO_473000;clear HO_473001;clear BK472;clear HB;clear HO_4;have HO_7:=n0_;have HO_473000:=n1_;have HO_473001:=n2_;have BK472:=n3_;have HB:=n4_;have HO481:=n5_;clear n0_ n1_ n2_ n3_ n4_ n5_;clear ho hb hg hat))
             go_roundg kj24
             case measure=>have:=HK1.out;have:=HK2.out;have:=HJ24.out;omega
             case rel=>exact ⟨(y479),(wrap64 (x8_1+1)),(by first|rfl|(simp;done)|(simp [*];done)|(simp [Int.tmod_eq_emod_of_nonneg];done)),H',⟨by have:=HK1.out;have:=HK2.out;have:=HJ24.out;omega⟩,⟨by (with_reducible repeat (first|apply yH|apply yI|apply yJ));exact HO481.out⟩,⟨by (with_reducible repeat (first|apply yH|apply yI|apply yJ));exact HO_7.out⟩,⟨by (with_reducible repeat (first|apply Kd.V_alloc|apply Kd.V_drewN|apply Kd.V_drew));exact Kd.V_mono HO_473000.out (fun _ hk=>⟨hk.2,⟨hk.1.1,hk.1.2⟩⟩)⟩,⟨by (with_reducible repeat (first|apply Kd.V_alloc|apply Kd.V_drewN|apply Kd.V_drew));exact Kd.V_mono HO_473001.out (fun _ hk=>⟨hk.2,⟨hk.1.1,hk.1.2⟩⟩)⟩,⟨by (with_reducible repeat (first|refine yE ?_ _|refine yF ?_|refine yG ?_ _));exact BK472.out⟩,⟨by repeat (first|(with_reducible first|exact HB.out|apply yA|apply yB|apply yC|refine yD ?_ GE472.out)|exact HB.out)⟩⟩
           ·rw [if_neg c33] at H
            exact absurd H (by simp)
          ·replace c32:=Bool.eq_false_iff.mpr c32
           subst c32
           have H1:(spec_StarParts.l0 kj24 x4_1 t473 (wrap64 (x8_1+1)) t465 t468)=some (r1,r2):=by rw [if_neg (show ¬ (false=true) by decide)] at H;exact H
           clear H
           have H:=H1
           clear H1
           have H':=Aside0.mk H
           clear H
           go_wp2
           go_roundg kj24
           case measure=>have:=HK1.out;have:=HK2.out;have:=HJ24.out;omega
           case rel=>exact ⟨(x4_1),(wrap64 (x8_1+1)),(by first|rfl|(simp;done)|(simp [*];done)|(simp [Int.tmod_eq_emod_of_nonneg];done)),H',⟨by have:=HK1.out;have:=HK2.out;have:=HJ24.out;omega⟩,⟨by (with_reducible repeat (first|apply yH|apply yI|apply yJ));exact HO_4.out⟩,⟨by (with_reducible repeat (first|apply yH|apply yI|apply yJ));exact HO_7.out⟩,⟨by (with_reducible repeat (first|apply Kd.V_alloc|apply Kd.V_drewN|apply Kd.V_drew));exact HO_473000.out⟩,⟨by (with_reducible repeat (first|apply Kd.V_alloc|apply Kd.V_drewN|apply Kd.V_drew));exact HO_473001.out⟩,⟨by (with_reducible repeat (first|refine yE ?_ _|refine yF ?_|refine yG ?_ _));exact BK472.out⟩,⟨by repeat (first|(with_reducible first|exact HB.out|apply yA|apply yB|apply yC|refine yD ?_ GE472.out)|exact HB.out)⟩⟩
    ·rw [if_neg c13] at H
     have c13b0:decide (x8_1<300)=false:=decide_eq_false c13
     clear c13
     simp only [Option.some.injEq,Prod.mk.injEq] at H
     obtain ⟨rfl,rfl⟩:=H
     go_wp2
     go_ret2
     exact ⟨_,by first|rfl|(simp [errW_none,errW_some]<;>rfl)|(simp [*,errW_none,errW_some]<;>rfl)|(simp [errW_none,errW_some];exact ⟨rfl,rfl⟩),by (with_reducible repeat (first|apply yH|apply yI|apply yJ));exact HO_4.out,by repeat (first|(with_reducible first|exact HB.out|apply yA|apply yB|apply yC|refine yD ?_ GE472.out)|exact HB.out)⟩
 ·replace c3:=Bool.eq_false_iff.mpr c3
  subst c3
  have H1:(some (y462,false))=some (r1,r2):=by rw [if_neg (show ¬ (false=true) by decide)] at H;exact H
  clear H
  have H:=H1
  clear H1
  simp only [Option.some.injEq,Prod.mk.injEq] at H
  obtain ⟨rfl,rfl⟩:=H
  go_enter Try.func13,Try.ntmps13
  go_wp2_with (first|((with_reducible refine gate_dst (N:=11) rfl ?_);refine Kd.R_lit (Kd.int .i64) _ 3 ?hg (N:=11) ?hd (xs:=([]:List Int)) (inner:=[]) (ok:=fun _=>True) (okp:=fun _=>True) ?hr ?hp (fun _ hk=>hk) trivial (Below.refl _ _) (Nat.le_refl _) (by simp) ?_;(case hd=>rfl);(case hg=>rfl);(case hr=>first|(go_simp;done)|(go_simp;rfl));(case hp=>exact (Reps.none _ _));intro v463 w39 ho40 hb hg_ hnew_;clear hg_ hnew_;(first|rw [← Ny462.out] at ho40|(simp only [Int.reduceToNat] at ho40;rw [← Ny462.out] at ho40));have n0_:=Aside0.mk (Kd.R_lower ho40 (yQ (by repeat (first|(with_reducible first|exact HB.out|apply yA|apply yB|apply yC)|exact HB.out))));have n1_:=Aside0.mk (yP (by repeat (first|(with_reducible first|exact HB.out|apply yA|apply yB|apply yC)|exact HB.out)) hb);clear HB;have HO464:=n0_;have HB:=n1_;clear n0_ n1_;clear hb ho40)|((with_reducible refine gate_callee (f:=24) rfl ?_);refine goesL_ (some 14) rfl rfl Try.func24 (by kernel_rfl) rfl #[.string a0] rfl (by (try simp only [List.map_toArray,List.map_cons,List.map_nil]);first|done|rfl|(simp only [List.length_drop,List.length_take];rfl)) ?_;(with_reducible refine (spec_l4Small.calls k a0 t465 t468 false _ A2.out).mono ?_);rintro e w41 ⟨v466,v469,rfl,ho0,ho1,hb⟩;refine ⟨_,rfl,?_⟩;have n0_:=Aside0.mk (Kd.R_below (by (with_reducible repeat (first|apply yH|apply yI|apply yJ));exact HO464.out) hb);have n1_:=Aside0.mk (Kd.V_lower (Kd.V_mono (ok':=fun k_=>some k_≠(v463:Value).ownBlock) ho0 (fun k_ hk_=>(Kd.fresh' (Kd.R_lt (by (with_reducible repeat (first|apply yH|apply yI|apply yJ));exact HO464.out)) k_ hk_))) (yQ (by repeat (first|(with_reducible first|exact HB.out|apply yA|apply yB|apply yC)|exact HB.out))));have n2_:=Aside0.mk (Kd.V_lower (Kd.V_mono (ok':=fun k_=>some k_≠(v463:Value).ownBlock) ho1 (fun k_ hk_=>(Kd.fresh' (Kd.R_lt (by (with_reducible repeat (first|apply yH|apply yI|apply yJ));exact HO464.out)) k_ hk_))) (yQ (by repeat (first|(with_reducible first|exact HB.out|apply yA|apply yB|apply yC)|exact HB.out))));have n3_:=Aside0.mk (yP (by repeat (first|(with_reducible first|exact HB.out|apply yA|apply yB|apply yC)|exact HB.out)) hb);clear HO464;clear HB;have HO464:=n0_;have HO467:=n1_;have HO470:=n2_;have HB:=n3_;clear n0_ n1_ n2_ n3_;(try clear hb);(try clear hb2);(try clear hk);(try clear hi);(try clear ho0);(try clear ho1))|((with_reducible refine gate_dst (N:=5) rfl ?_);refine box_event ?hg (N:=5) ?hd (cs:=#[.slice none 0 0,.slice none 0 0]) (t:=46) ?hr ?_;(case hd=>rfl);(case hg=>rfl);(case hr=>first|(go_simp;done)|(go_simp;rfl));intro gb472 hg w42 hbox hb;have n0_:=Aside0.mk (Kd.R_below (by (with_reducible repeat (first|apply yH|apply yI|apply yJ));exact HO464.out) hb);have n1_:=Aside0.mk (Kd.V_below (Kd.V_elderB (by (with_reducible repeat (first|apply Kd.V_alloc|apply Kd.V_drewN|apply Kd.V_drew));exact HO467.out) gb472 (Nat.le_of_eq hg.symm)) hb);have n2_:=Aside0.mk (Kd.V_below (Kd.V_elderB (by (with_reducible repeat (first|apply Kd.V_alloc|apply Kd.V_drewN|apply Kd.V_drew));exact HO470.out) gb472 (Nat.le_of_eq hg.symm)) hb);have n3_:=Aside0.mk (yP (by repeat (first|(with_reducible first|exact HB.out|apply yA|apply yB|apply yC)|exact HB.out)) hb);have n4_:=Aside0.mk (hbox);have n5_:=Aside0.mk ((by rw [hg];exact (yQ (by repeat (first|(with_reducible first|exact HB.out|apply yA|apply yB|apply yC)|exact HB.out))):w.heap.size≤gb472));have n6_:=Aside0.mk ((by rw [hg];exact (yQ (by repeat (first|(with_reducible first|exact HB.out|apply yA|apply yB|apply yC)|exact HB.out))):w.heap.size≤gb472));clear HO464;clear HO467;clear HO470;clear HB;have HO464:=n0_;have HO467:=n1_;have HO470:=n2_;have HB:=n3_;have BK472:=n4_;have GW472:=n5_;have GE472:=n6_;clear n0_ n1_ n2_ n3_ n4_ n5_ n6_;clear hb hbox hg;obtain ⟨Ao43,co43,eo43⟩:=Kd.V_slice HO467.out;subst eo43;have hcz44_0:w42.cell? ⟨gb472,0,none⟩=some (.slice none 0 0):=(blk_cell BK472.out 0).trans rfl;have hcz44_1:w42.cell? ⟨gb472,1,none⟩=some (.slice none 0 0):=(blk_cell BK472.out 1).trans rfl;have hfz44_0:=blk_frozen BK472.out 0;have hfz44_1:=blk_frozen BK472.out 1;obtain ⟨Ao45,co45,eo45⟩:=Kd.V_slice HO470.out;subst eo45))
  go_ret2
  exact ⟨_,by first|rfl|(simp [errW_none,errW_some]<;>rfl)|(simp [*,errW_none,errW_some]<;>rfl)|(simp [errW_none,errW_some];exact ⟨rfl,rfl⟩),by (with_reducible repeat (first|apply yH|apply yI|apply yJ));exact Kd.R_mono (Kd.R_far (p:=⟨gb472,1,none⟩) (Kd.R_far (p:=⟨gb472,0,none⟩) (Kd.R_types HO464.out BK472.out (by decide)) (fun _ hk=>hk.2) (.slice Ao43 t465.length co43)) (fun _ hk=>hk.2) (.slice Ao45 t468.length co45)) (fun _ hk=>trivial),by repeat (first|(with_reducible first|exact HB.out|apply yA|apply yB|apply yC|refine yD ?_ GE472.out)|exact HB.out)⟩

end Go.Proofs.Yticdcfgjpopkoaa.P

namespace Go.Proofs.Yticdcfgjpopkoaa.P
open Go.RowKit Go.Proofs.YticdcfgjpopkoaaW.PrintWords Go.Proofs.YticdcfgjpopkoaaW.PrintLast Go.Proofs.YticdcfgjpopkoaaW.PrintMore
attribute [local go_sem] max2_int min2_int max_two min_two max_three min_three max_four min_four   -- for this text's walks alone
set_option linter.unusedVariables false
set_option linter.unusedSimpArgs false

/-! ### stringslite_HasSuffix: function 71 -/
def stringslite_HasSuffix.f (a0:ByteArray) (a1:ByteArray):Option (Bool):=if (a0.size:Int) ≥ (a1.size:Int) then (if 0≤(wrap64 ((a0.size:Int) - (a1.size:Int))) then (if (wrap64 ((a0.size:Int) - (a1.size:Int)))≤(a0.size:Int) then (some ((a0.extract ((wrap64 ((a0.size:Int) - (a1.size:Int))):Int).toNat a0.size).toList == a1.toList)) else (none)) else (none)) else (some false)
set_option maxHeartbeats 8000000 in
set_option maxRecDepth 100000 in
theorem stringslite_HasSuffix.calls (a0:ByteArray) (a1:ByteArray) (r:Bool) (w:World) (h:stringslite_HasSuffix.f a0 a1=some r) :
  Calls Try.prog 71 #[.string a0,.string a1] w fun e w'=>e=.returned (.bool r)∧Drawn0 w w':=by
 have H:(if (a0.size:Int) ≥ (a1.size:Int) then (if 0≤(wrap64 ((a0.size:Int) - (a1.size:Int))) then (if (wrap64 ((a0.size:Int) - (a1.size:Int)))≤(a0.size:Int) then (some ((a0.extract ((wrap64 ((a0.size:Int) - (a1.size:Int))):Int).toNat a0.size).toList == a1.toList)) else (none)) else (none)) else (some false))=some r:=h
 clear h
 by_cases c3:(a0.size:Int) ≥ (a1.size:Int)
 ·rw [if_pos c3] at H
  have c3b0:decide ((a1.size:Int)≤(a0.size:Int))=true:=decide_eq_true c3
  have c3b1:decide (a1.size≤a0.size)=true:=decide_eq_true (Int.ofNat_le.mp c3)
  clear c3
  obtain ⟨ji4,hji4⟩:∃ j_:Int,(wrap64 ((a0.size:Int) - (a1.size:Int)))=j_:=⟨_,rfl⟩
  replace H:(if 0≤(ji4) then (if (ji4)≤(a0.size:Int) then (some ((a0.extract ((ji4):Int).toNat a0.size).toList == a1.toList)) else (none)) else (none))=some r:=by first|(rw [hji4] at H;exact H)|(simp only [hji4] at H ⊢;exact H)
  have hji4w:(IntKind.i64.wrap ((a0.size:Int) - (a1.size:Int)))=ji4:=(i64_w _).trans hji4
  by_cases c5:0≤(ji4)
  ·rw [if_pos c5] at H
   have c5b0:=eq_true c5
   have c5b1:decide (0≤(ji4))=true:=decide_eq_true c5
   clear c5
   by_cases c6:(ji4)≤(a0.size:Int)
   ·rw [if_pos c6] at H
    have c6b0:=eq_true c6
    have c6b1:decide ((ji4)≤(a0.size:Int))=true:=decide_eq_true c6
    clear c6
    obtain rfl:=Option.some.inj H
    go_enter Try.func71,Try.ntmps71
    go_wp2
    go_ret
    exact ⟨by first|rfl|(simp;done)|(simp only [← hji4]<;>(first|rfl|simp))|(simp [*];done),by repeat (first|exact Drawn0.refl _|apply Drawn0.step)⟩
   ·rw [if_neg c6] at H
    exact absurd H (by simp)
  ·rw [if_neg c5] at H
   exact absurd H (by simp)
 ·rw [if_neg c3] at H
  have c3b0:decide ((a1.size:Int)≤(a0.size:Int))=false:=decide_eq_false c3
  have c3b1:decide (a1.size≤a0.size)=false:=decide_eq_false (fun h=>c3 (Int.ofNat_le.mpr h))
  clear c3
  obtain rfl:=Option.some.inj H
  go_enter Try.func71,Try.ntmps71
  go_wp2
  go_ret
  exact ⟨by first|rfl|(simp;done)|(simp [*];done),by repeat (first|exact Drawn0.refl _|apply Drawn0.step)⟩

end Go.Proofs.Yticdcfgjpopkoaa.P

namespace Go.Proofs.Yticdcfgjpopkoaa.P
open Go.RowKit Go.Proofs.YticdcfgjpopkoaaW.PrintWords Go.Proofs.YticdcfgjpopkoaaW.PrintLast Go.Proofs.YticdcfgjpopkoaaW.PrintMore
attribute [local go_sem] max2_int min2_int max_two min_two max_three min_three max_four min_four   -- for this text's walks alone
set_option linter.unusedVariables false
set_option linter.unusedSimpArgs false

/-! ### stringslite_CutSuffix: function 65 -/
def stringslite_CutSuffix.f (a0:ByteArray) (a1:ByteArray):Option (ByteArray × Bool):=(stringslite_HasSuffix.f a0 a1).bind fun t140=>(if t140=true then (if 0≤(wrap64 ((a0.size:Int) - (a1.size:Int))) then (if (wrap64 ((a0.size:Int) - (a1.size:Int)))≤(a0.size:Int) then (some (a0.extract 0 ((wrap64 ((a0.size:Int) - (a1.size:Int))):Int).toNat,true)) else (none)) else (none)) else (some (a0,false)))
set_option maxHeartbeats 8000000 in
set_option maxRecDepth 100000 in
theorem stringslite_CutSuffix.calls (a0:ByteArray) (a1:ByteArray) (r1:ByteArray) (r2:Bool) (w:World) (h:stringslite_CutSuffix.f a0 a1=some (r1,r2)) :
  Calls Try.prog 65 #[.string a0,.string a1] w fun e w'=>e=.returned (.tuple #[.string r1,.bool r2])∧Drawn0 w w':=by
 have H:((stringslite_HasSuffix.f a0 a1).bind fun t140=>(if t140=true then (if 0≤(wrap64 ((a0.size:Int) - (a1.size:Int))) then (if (wrap64 ((a0.size:Int) - (a1.size:Int)))≤(a0.size:Int) then (some (a0.extract 0 ((wrap64 ((a0.size:Int) - (a1.size:Int))):Int).toNat,true)) else (none)) else (none)) else (some (a0,false))))=some (r1,r2):=h
 clear h
 replace H:=Option.bind_eq_some_iff.mp H
 obtain ⟨t140,A30,H⟩:=H
 replace H:(if t140=true then (if 0≤(wrap64 ((a0.size:Int) - (a1.size:Int))) then (if (wrap64 ((a0.size:Int) - (a1.size:Int)))≤(a0.size:Int) then (some (a0.extract 0 ((wrap64 ((a0.size:Int) - (a1.size:Int))):Int).toNat,true)) else (none)) else (none)) else (some (a0,false)))=some (r1,r2):=H
 have A3:=Aside0.mk A30
 clear A30
 by_cases c4:t140=true
 ·subst c4
  have H1:(if 0≤(wrap64 ((a0.size:Int) - (a1.size:Int))) then (if (wrap64 ((a0.size:Int) - (a1.size:Int)))≤(a0.size:Int) then (some (a0.extract 0 ((wrap64 ((a0.size:Int) - (a1.size:Int))):Int).toNat,true)) else (none)) else (none))=some (r1,r2):=by rw [if_pos rfl] at H;exact H
  clear H
  have H:=H1
  clear H1
  obtain ⟨ji5,hji5⟩:∃ j_:Int,(wrap64 ((a0.size:Int) - (a1.size:Int)))=j_:=⟨_,rfl⟩
  replace H:(if 0≤(ji5) then (if (ji5)≤(a0.size:Int) then (some (a0.extract 0 ((ji5):Int).toNat,true)) else (none)) else (none))=some (r1,r2):=by first|(rw [hji5] at H;exact H)|(simp only [hji5] at H ⊢;exact H)
  (try rw [hji5] at A3)
  have hji5w:(IntKind.i64.wrap ((a0.size:Int) - (a1.size:Int)))=ji5:=(i64_w _).trans hji5
  by_cases c6:0≤(ji5)
  ·rw [if_pos c6] at H
   have c6b0:=eq_true c6
   have c6b1:decide (0≤(ji5))=true:=decide_eq_true c6
   clear c6
   by_cases c7:(ji5)≤(a0.size:Int)
   ·rw [if_pos c7] at H
    have c7b0:=eq_true c7
    have c7b1:decide ((ji5)≤(a0.size:Int))=true:=decide_eq_true c7
    clear c7
    simp only [Option.some.injEq,Prod.mk.injEq] at H
    obtain ⟨rfl,rfl⟩:=H
    go_enter Try.func65,Try.ntmps65
    go_wp2_with (first|((with_reducible refine gate_callee (f:=71) rfl ?_);refine goesL_ (some 8) rfl rfl Try.func71 (by kernel_rfl) rfl #[.string a0,.string a1] rfl (by (try simp only [List.map_toArray,List.map_cons,List.map_nil]);first|done|rfl|(simp only [List.length_drop,List.length_take];rfl)) ?_;(with_reducible refine (stringslite_HasSuffix.calls a0 a1 true _ A3.out).mono ?_);rintro e w' ⟨rfl,⟨nd,rfl⟩⟩;refine ⟨_,rfl,?_⟩))
    go_ret2
    exact ⟨by first|rfl|(simp;done)|(simp only [← hji5]<;>(first|rfl|simp))|(simp [*];done),by repeat (first|exact Drawn0.refl _|apply Drawn0.step)⟩
   ·rw [if_neg c7] at H
    exact absurd H (by simp)
  ·rw [if_neg c6] at H
   exact absurd H (by simp)
 ·replace c4:=Bool.eq_false_iff.mpr c4
  subst c4
  have H1:(some (a0,false))=some (r1,r2):=by rw [if_neg (show ¬ (false=true) by decide)] at H;exact H
  clear H
  have H:=H1
  clear H1
  simp only [Option.some.injEq,Prod.mk.injEq] at H
  obtain ⟨rfl,rfl⟩:=H
  go_enter Try.func65,Try.ntmps65
  go_wp2_with (first|((with_reducible refine gate_callee (f:=71) rfl ?_);refine goesL_ (some 8) rfl rfl Try.func71 (by kernel_rfl) rfl #[.string a0,.string a1] rfl (by (try simp only [List.map_toArray,List.map_cons,List.map_nil]);first|done|rfl|(simp only [List.length_drop,List.length_take];rfl)) ?_;(with_reducible refine (stringslite_HasSuffix.calls a0 a1 false _ A3.out).mono ?_);rintro e w' ⟨rfl,⟨nd,rfl⟩⟩;refine ⟨_,rfl,?_⟩))
  go_ret2
  exact ⟨by first|rfl|(simp;done)|(simp [*];done),by repeat (first|exact Drawn0.refl _|apply Drawn0.step)⟩

end Go.Proofs.Yticdcfgjpopkoaa.P

namespace Go.Proofs.Yticdcfgjpopkoaa.P
open Go.RowKit Go.Proofs.YticdcfgjpopkoaaW.PrintWords Go.Proofs.YticdcfgjpopkoaaW.PrintLast Go.Proofs.YticdcfgjpopkoaaW.PrintMore
attribute [local go_sem] max2_int min2_int max_two min_two max_three min_three max_four min_four   -- for this text's walks alone
set_option linter.unusedVariables false
set_option linter.unusedSimpArgs false

/-! ### strings_CutSuffix: function 53 -/
def strings_CutSuffix.f (a0:ByteArray) (a1:ByteArray):Option (ByteArray × Bool):=(stringslite_CutSuffix.f a0 a1).bind fun bt141=>(some (bt141.1,bt141.2))
set_option maxHeartbeats 8000000 in
set_option maxRecDepth 100000 in
theorem strings_CutSuffix.calls (a0:ByteArray) (a1:ByteArray) (r1:ByteArray) (r2:Bool) (w:World) (h:strings_CutSuffix.f a0 a1=some (r1,r2)) :
  Calls Try.prog 53 #[.string a0,.string a1] w fun e w'=>e=.returned (.tuple #[.string r1,.bool r2])∧Drawn0 w w':=by
 have H:((stringslite_CutSuffix.f a0 a1).bind fun bt141=>(some (bt141.1,bt141.2)))=some (r1,r2):=h
 clear h
 replace H:=Option.bind_eq_some_iff.mp H
 obtain ⟨⟨t141,t142⟩,A30,H⟩:=H
 replace H:(some (t141,t142))=some (r1,r2):=H
 have A3:=Aside0.mk A30
 clear A30
 simp only [Option.some.injEq,Prod.mk.injEq] at H
 obtain ⟨rfl,rfl⟩:=H
 go_enter Try.func53,Try.ntmps53
 go_wp2_with (first|((with_reducible refine gate_callee (f:=65) rfl ?_);refine goesL_ (some 8) rfl rfl Try.func65 (by kernel_rfl) rfl #[.string a0,.string a1] rfl (by (try simp only [List.map_toArray,List.map_cons,List.map_nil]);first|done|rfl|(simp only [List.length_drop,List.length_take];rfl)) ?_;(with_reducible refine (stringslite_CutSuffix.calls a0 a1 t141 t142 _ A3.out).mono ?_);rintro e w' ⟨rfl,⟨nd,rfl⟩⟩;refine ⟨_,rfl,?_⟩))
 go_ret2
 exact ⟨by first|rfl|(simp;done)|(simp [*];done),by repeat (first|exact Drawn0.refl _|apply Drawn0.step)⟩

end Go.Proofs.Yticdcfgjpopkoaa.P

-- The plain words of texts of signs.
namespace Go.Proofs.Yticdcfgjpopkoaa.P
open Go.RowKit Go.Proofs.YticdcfgjpopkoaaW.PrintWords Go.Proofs.YticdcfgjpopkoaaW.PrintLast Go.Proofs.YticdcfgjpopkoaaW.PrintMore
set_option linter.unusedVariables false
set_option linter.unusedSimpArgs false
theorem w64 {x : Int} (h0 : -9223372036854775808 ≤ x) (h1 : x ≤ 9223372036854775807) : wrap64 x = x := by unfold wrap64; omega
theorem wsucc {i : Nat} (h : i ≤ 4611686018427387904) : wrap64 ((i : Int) + 1) = ((i + 1 : Nat) : Int) := by rw [w64 (by omega) (by omega)]; omega
theorem wadd {i j : Nat} (h : i + j ≤ 4611686018427387904) : wrap64 ((i : Int) + (j : Int)) = ((i + j : Nat) : Int) := by rw [w64 (by omega) (by omega)]; omega
theorem wsub {i j : Nat} (h : j ≤ i) (h2 : i ≤ 4611686018427387904) : wrap64 ((i : Int) - (j : Int)) = ((i - j : Nat) : Int) := by rw [w64 (by omega) (by omega)]; omega
theorem wpred {i : Nat} (h : 1 ≤ i) (h2 : i ≤ 4611686018427387904) : wrap64 ((i : Int) - 1) = ((i - 1 : Nat) : Int) := by rw [w64 (by omega) (by omega)]; omega
theorem wmul {i j : Nat} (h : i * j ≤ 4611686018427387904) : wrap64 ((i : Int) * (j : Int)) = ((i * j : Nat) : Int) := by
  have e : (i : Int) * (j : Int) = ((i * j : Nat) : Int) := (Int.natCast_mul i j).symm
  rw [e, w64 (by omega) (by omega)]
theorem tmod_nat (i j : Nat) : Int.tmod (i : Int) (j : Int) = ((i % j : Nat) : Int) := by rw [Int.tmod_eq_emod_of_nonneg (by omega)]; rfl
theorem tdiv_nat (i j : Nat) : Int.tdiv (i : Int) (j : Int) = ((i / j : Nat) : Int) := by rw [Int.tdiv_eq_ediv_of_nonneg (by omega)]; rfl
theorem rdOf_nat (l : List Bool) (i : Nat) : rdOf false l (i : Int) = l.getD i false := by simp [rdOf]
/-- The signs that a text of bytes tells. -/
def bitsL : List UInt8 → Option (List Bool)
  | [] => some []
  | c :: cs => if c = 48 then (bitsL cs).map (false :: ·) else if c = 49 then (bitsL cs).map (true :: ·) else none

def chrs (s : ByteArray) : List UInt8 := s.data.toList
theorem chrs_length (s : ByteArray) : (chrs s).length = s.size := by simp [chrs]
theorem bt_chr (s : ByteArray) {i : Nat} (h : i < s.size) : bt s (i : Int) = (((chrs s)[i]'(by rw [chrs_length]; exact h)).toNat : Int) := by
  unfold bt
  rw [dif_pos (by simpa using h)]
  simp [chrs, ByteArray.getElem_eq_getElem_data]
theorem u8_eq {c : UInt8} {n : Nat} (hn : n < 256) : ((c.toNat : Int) = (n : Int)) ↔ c = UInt8.ofNat n := by
  constructor
  · intro h
    apply UInt8.toNat_inj.1
    rw [UInt8.toNat_ofNat_of_lt' hn]; omega
  · rintro rfl
    rw [UInt8.toNat_ofNat_of_lt' hn]

theorem chrs_extract (s : ByteArray) (a b : Nat) : chrs (s.extract a b) = ((chrs s).take b).drop a := by
  simp [chrs, ByteArray.data_extract, List.drop_take]
theorem chrs_inj {s t : ByteArray} (h : chrs s = chrs t) : s = t := by
  cases s; cases t; simp only [chrs] at h; congr 1; exact Array.toList_inj.1 h
theorem bt_eq (s : ByteArray) {i : Nat} (h : i < s.size) (n : Nat) (hn : n < 256) : (bt s (i : Int) = (n : Int)) ↔ (chrs s)[i]'(by rw [chrs_length]; exact h) = UInt8.ofNat n := by
  rw [bt_chr s h]; exact u8_eq hn
theorem bt_eq' (s : ByteArray) {i : Nat} (h : i < s.size) (n : Nat) (hn : n < 256) : (bt s (i : Int) = (n : Int)) ↔ (chrs s)[i]? = some (UInt8.ofNat n) := by
  rw [bt_eq s h n hn, List.getElem?_eq_getElem (by rw [chrs_length]; exact h)]; simp

/-- A sign as a byte. -/
def sgn (b : Bool) : UInt8 := if b then 49 else 48
/-- The text of a tail and a ring. -/
def textOf (t r : List Bool) : ByteArray := ⟨(t.map sgn ++ [40] ++ r.map sgn ++ [41]).toArray⟩
theorem chrs_textOf (t r : List Bool) : chrs (textOf t r) = t.map sgn ++ [40] ++ r.map sgn ++ [41] := rfl
def sgnI (b : Bool) : Int := if b then 49 else 48
theorem drop_getD {l : List Bool} {i : Nat} (h : i < l.length) : l.drop i = l.getD i false :: l.drop (i + 1) := by
  rw [List.drop_eq_getElem_cons h]; simp [List.getD_eq_getElem?_getD, h]
theorem drawn0_below {w w1 : World} (h : Drawn0 w w1) : Below w.heap.size w w1 := by
  obtain ⟨q, rfl⟩ := h
  exact pw_below_drewN (Below.refl _ _) q

end Go.Proofs.Yticdcfgjpopkoaa.P

-- impl.told writes signs as a text (a strings.Builder of its own).
namespace Go.Proofs.Yticdcfgjpopkoaa.P
open Go.RowKit Go.Proofs.YticdcfgjpopkoaaW.PrintWords Go.Proofs.YticdcfgjpopkoaaW.PrintLast Go.Proofs.YticdcfgjpopkoaaW.PrintMore
set_option linter.unusedVariables false
set_option linter.unusedSimpArgs false

def impl_told.f (l0 : List Bool) : Option ByteArray := if l0.length ≤ 70368744177664 then some ⟨(l0.map sgn).toArray⟩ else none

theorem builder_info : (Try.prog.info? 90).map (·.size) = some 2 := by kernel_rfl
theorem builder_lies : liesAt Try.prog Try.prog.depth 90 (2 / Try.prog.cellsOf 90) 0 90 1 = true := by kernel_rfl

set_option maxHeartbeats 4000000 in
set_option maxRecDepth 100000 in
theorem builder_copyCheck_used (b : Nat) (w : World) (h0 : w.cell? ⟨b, 0, none⟩ = some (.pointer (some ⟨b, 0, none⟩))) :
    Calls Try.prog 79 #[.pointer (some ⟨b, 0, none⟩)] w fun e w' => e = .returned (.tuple #[]) ∧ w' = w := by
  obtain ⟨j, hj, _⟩ := Option.map_eq_some_iff.1 builder_info
  go_enter Try.func79, Try.ntmps79
  go_wp2
  rw [Lib.run_neq_ptr_same w _ Try.underlying88 hj]
  go_wp2
  go_end0
  exact ⟨rfl, rfl⟩

set_option maxHeartbeats 4000000 in
set_option maxRecDepth 100000 in
theorem builder_copyCheck_fresh (b : Nat) (w : World) (h0 : w.cell? ⟨b, 0, none⟩ = some (.pointer none)) (hsh : w.shape? b = some (90, 2)) (hfz : w.frozen? ⟨b, 0, none⟩ = false) :
    Calls Try.prog 79 #[.pointer (some ⟨b, 0, none⟩)] w fun e w' => e = .returned (.tuple #[]) ∧ w' = w.setCell ⟨b, 0, none⟩ (.pointer (some ⟨b, 0, none⟩)) := by
  obtain ⟨j, hj, hjs⟩ := Option.map_eq_some_iff.1 builder_info
  go_enter Try.func79, Try.ntmps79
  go_wp2
  rw [Lib.run_to_unsafe w ⟨b, 0, none⟩ Try.underlying88 Try.underlying102 hj (by rw [hjs]; decide) hsh (Nat.zero_lt_succ 1)]
  simp only [Result.andThen]
  rw [Oper.upon_value]
  go_wp2
  rw [run_callFunc_extern Try.func82 (by kernel_rfl) (by kernel_rfl) (by kernel_rfl) (e := Extern.AbiNoEscape.same) (by kernel_rfl)]
  rw [Lib.run_noEscape]
  simp only [Result.andThen]
  rw [Oper.upon_value]
  go_wp2
  rw [Lib.run_from_unsafe w ⟨b, 0, none⟩ Try.underlying102 Try.underlying88 hj hsh builder_lies]
  simp only [Result.andThen]
  rw [Oper.upon_value]
  go_wp2
  go_end0
  exact ⟨rfl, rfl⟩

theorem builder_copyCheck (B b : Nat) (bs : List Value) (w : World) (h : Lib.IsBuilder 90 5 B b bs w) :
    Calls Try.prog 79 #[.pointer (some ⟨b, 0, none⟩)] w fun e w' => e = .returned (.tuple #[]) ∧ (Lib.BuilderAt 90 5 B b (.pointer (some ⟨b, 0, none⟩)) bs w' ∧ Below B w w') := by
  rcases h with h | h
  · refine (builder_copyCheck_fresh b w h.cell0 h.shape h.frozen0).mono ?_
    rintro e w' ⟨rfl, rfl⟩
    exact ⟨rfl, h.used _, (Below.refl B w).setCell (p := ⟨b, 0, none⟩) h.1 _⟩
  · refine (builder_copyCheck_used b w h.cell0).mono ?_
    rintro e w' ⟨rfl, rfl⟩
    exact ⟨rfl, h, Below.refl B _⟩

theorem byte_info : (Try.prog.info? 5).map (fun i => (i.zero, i.size, i.bytes)) = some (some (.int .u8 0), 1, 1) := by kernel_rfl

set_option maxHeartbeats 4000000 in
set_option maxRecDepth 100000 in
theorem builder_WriteByte (B b : Nat) (bs : List Value) (c : Int) (w : World) (h : Lib.IsBuilder 90 5 B b bs w) (hlen : bs.length + 1 ≤ 140737488355328) (hBw : B ≤ w.heap.size) :
    Calls Try.prog 72 #[.pointer (some ⟨b, 0, none⟩), .int .u8 c] w fun e w' => e = .returned .nilIface ∧ (Lib.BuilderAt 90 5 B b (.pointer (some ⟨b, 0, none⟩)) (bs ++ [.int .u8 c]) w' ∧ Below B w w') := by
  obtain ⟨i0, hi, hz0, hz1, hz2⟩ := info_parts byte_info
  go_enter Try.func72, Try.ntmps72
  go_wp2_with (go_at_call 79; refine (builder_copyCheck B b bs _ h).mono ?_)
  rintro e w1 ⟨rfl, h1, hb1⟩
  obtain ⟨hB, v, hbk, hown, hne⟩ := h1
  have c0 : w1.cell? ⟨b, 0, none⟩ = some (.pointer (some ⟨b, 0, none⟩)) := by rw [Lib.cell_of_heap hbk]; rfl
  have c1 : w1.cell? ⟨b, 1, none⟩ = some v := by rw [Lib.cell_of_heap hbk]; rfl
  go_wp2_with (at_builtin; refine wpList_append_own _ rfl _ _ 22 rfl B 5 i0 (.int .u8 0) 1 1 Try.underlying22 hi hz0 hz1 hz2 rfl (by decide) _ _ _ rfl (hown.alloc _) ⟨w1.heap.size, 0, none⟩ 1 1 [.int .u8 c] rfl rfl ?c1 ?c2 ?c3 ?c4 ?c5 ?_)
  case c1 =>
    intro j u hj
    match j, hj with
    | 0, hj => simp at hj; subst hj; simp [Addr.add]
  case c2 => intro u hu; simp at hu; subst hu; rfl
  case c3 => unfold maxLen; omega
  case c4 => omega
  case c5 => have := hb1.size; simp; omega
  intro v' w2 hown' hgrow _
  have hlt : b < w1.heap.size := by
    rcases Nat.lt_or_ge b w1.heap.size with h' | h'
    · exact h'
    · simp [Array.getElem?_eq_none h'] at hbk
  have hb2 : w2.heap[b]? = some (.cells #[.pointer (some ⟨b, 0, none⟩), v] 90 (0, 0)) := by
    rw [hgrow.block b (by simp; omega) (fun e => hne e.symm), Lib.alloc_old w1 _ b hlt]
    exact hbk
  have d0 : w2.cell? ⟨b, 0, none⟩ = some (.pointer (some ⟨b, 0, none⟩)) := by rw [Lib.cell_of_heap hb2]; rfl
  have d1 : w2.cell? ⟨b, 1, none⟩ = some v := by rw [Lib.cell_of_heap hb2]; rfl
  have f1 : w2.frozen? ⟨b, 1, none⟩ = false := Lib.frozen_of_heap hb2 1
  obtain ⟨g, cap, rfl⟩ : ∃ g cap, v' = .slice (some ⟨g, 0, none⟩) (bs.length + 1) cap := by
    rcases hown'.2 with ⟨_, h0⟩ | ⟨g, cap, cur, hv, _⟩
    · omega
    · exact ⟨g, cap, hv⟩
  go_wp2
  go_ret
  refine ⟨rfl, ?_, ?_⟩
  · exact Lib.BuilderAt.put (T := 90) (e := 5) hB hb2 (bs' := bs ++ [.int .u8 c]) (by simpa using hown') (by decide)
  · exact ((hb1.alloc (by have := hb1.size; omega) _).grown hgrow (by have := hb1.size; simp; omega) (fun k hk => (hown.lt k hk).1)).setCell (p := ⟨b, 1, none⟩) hB _

theorem reads_bool {w : World} {A : Option Addr} {n : Nat} {xs : List Bool} (h : Kd.C Kd.bool w A n xs) (i : Nat) (hi : i < n) : ∃ ad, A = some ad ∧ w.cell? (ad.add i) = some (.bool (xs.getD i false)) := by
  have h2 := Kd.reads_of_C (d := false) (h1 := fun _ => rfl) h
  obtain ⟨ad, e, hc⟩ := h2.2.2 (by omega)
  exact ⟨ad, e, hc i hi⟩

theorem byteCells_sgn (l : List Bool) : Lib.byteCells (l.map sgn) = l.map fun b => Value.int .u8 (if b then 49 else 48) := by
  simp only [Lib.byteCells, List.map_map]
  apply List.map_congr_left
  intro b _
  cases b <;> rfl

theorem take_cells {l : List Bool} {k : Nat} {b : Bool} (h : k < l.length) (hb : l.getD k false = b) : Lib.byteCells ((l.take (k + 1)).map sgn) = Lib.byteCells ((l.take k).map sgn) ++ [.int .u8 (if b then 49 else 48)] := by
  have e : l[k] = b := by rw [← hb, List.getD_eq_getElem?_getD, List.getElem?_eq_getElem h]; rfl
  rw [List.take_succ_eq_append_getElem h, List.map_append, e]
  simp only [Lib.byteCells, List.map_append, List.map_cons, List.map_nil]
  cases b <;> rfl

set_option maxHeartbeats 8000000 in
set_option maxRecDepth 100000 in
theorem impl_told.calls (A0 : Option Addr) (c0 : Nat) (l0 : List Bool) (r : ByteArray) (w : World) (hr0 : Kd.C Kd.bool w A0 l0.length l0) (hc0 : l0.length ≤ c0) (h : impl_told.f l0 = some r) :
    Calls Try.prog 68 #[.slice A0 l0.length c0] w fun e w' => e = .returned (.string r) ∧ Below w.heap.size w w' := by
  have hlen : l0.length ≤ 70368744177664 := by
    unfold impl_told.f at h
    split at h
    · assumption
    · cases h
  have hr : (⟨(l0.map sgn).toArray⟩ : ByteArray) = r := by
    unfold impl_told.f at h
    rw [if_pos hlen] at h
    injection h
  have HR := Aside0.mk hr0
  have HX := Aside0.mk hr
  have HL := Aside0.mk hlen
  clear hr0 h hc0 hr
  go_enter Try.func68, Try.ntmps68
  go_wp2
  go_loopg [8] l0.length (fun gg s8 wr => ∃ k : Nat, k ≤ l0.length ∧ l0.length - k ≤ gg ∧ s8 = .int .i64 k ∧ Aside0 (Lib.IsBuilder 90 5 w.heap.size w.heap.size (Lib.byteCells ((l0.take k).map sgn)) wr) ∧ Aside0 (Below w.heap.size w wr))
  case atStart =>
    refine ⟨0, Nat.zero_le _, by omega, rfl, ⟨.inl ⟨Nat.le_refl _, .slice none 0 0, ?_, ?_, ?_⟩⟩, ⟨below_alloc (Below.refl _ _) _⟩⟩
    · exact heap_alloc_new _ _
    · exact World.ownsRow_nil _ _ _ _
    · simp [Value.ownBlock]
  case round =>
    obtain ⟨k, hk, hgg, rfl, HI, HB⟩ := hrel
    by_cases hlt : k < l0.length
    · obtain ⟨ad, rfl, hcell⟩ := reads_bool (Kd.C_below HR.out HB.out) k hlt
      have hw := builder_WriteByte w.heap.size w.heap.size _ (if l0.getD k false then 49 else 48) wr HI.out (by rw [Lib.byteCells_length]; simp; have := HL.out; omega) HB.out.size
      have hB := HB
      clear HB HI
      cases hv : l0.getD k false with
      | true =>
        rw [hv] at hcell hw
        simp only [if_true] at hw
        have HV := Aside0.mk hv
        clear hv
        go_wp2_with (go_at_call 72; refine hw.mono ?_; rintro e w1 ⟨rfl, hi, hb⟩)
        go_roundg (l0.length - (k + 1))
        case measure => omega
        case rel =>
          refine ⟨k + 1, by omega, by omega, by go_num, ⟨.inr ?_⟩, ⟨hB.out.trans hb⟩⟩
          rw [take_cells hlt HV.out]
          exact hi
      | false =>
        rw [hv] at hcell hw
        simp only [Bool.false_eq_true, if_false] at hw
        have HV := Aside0.mk hv
        clear hv
        go_wp2_with (go_at_call 72; refine hw.mono ?_; rintro e w1 ⟨rfl, hi, hb⟩)
        go_roundg (l0.length - (k + 1))
        case measure => omega
        case rel =>
          refine ⟨k + 1, by omega, by omega, by go_num, ⟨.inr ?_⟩, ⟨hB.out.trans hb⟩⟩
          rw [take_cells hlt HV.out]
          exact hi
    · have e : l0.take k = l0 := List.take_of_length_le (by omega)
      rw [e] at HI
      have hs := Try.Builder_String_any w.heap.size w.heap.size (l0.map sgn) wr HI.out HB.out.size
      rw [HX.out] at hs
      have hB := HB
      clear HB HI HR e
      go_wp2_with (go_at_call 73; refine hs.mono ?_; rintro e w1 ⟨rfl, hb⟩)
      go_ret
      exact ⟨rfl, hB.out.trans hb⟩
end Go.Proofs.Yticdcfgjpopkoaa.P

-- stringslite.Index at a separator of one byte: the place of that byte.
namespace Go.Proofs.Yticdcfgjpopkoaa.P
open Go.RowKit Go.Proofs.YticdcfgjpopkoaaW.PrintWords Go.Proofs.YticdcfgjpopkoaaW.PrintLast Go.Proofs.YticdcfgjpopkoaaW.PrintMore
set_option linter.unusedVariables false
set_option linter.unusedSimpArgs false

def stringslite_Index.f (a0 a1 : ByteArray) : Option Int := if a1.size = 1 then some (if (chrs a0).findIdx (· == (chrs a1).headD 0) < a0.size then (((chrs a0).findIdx (· == (chrs a1).headD 0) : Nat) : Int) else -1) else none

theorem indexByte_find (c : UInt8) : ∀ l : List UInt8, Lib.indexByte l c = if l.findIdx (· == c) < l.length then ((l.findIdx (· == c) : Nat) : Int) else -1
  | [] => rfl
  | b :: l => by
    simp only [Lib.indexByte, List.findIdx_cons, List.length_cons]
    rw [indexByte_find c l]
    have hle := l.findIdx_le_length (p := (· == c))
    generalize l.findIdx (· == c) = p at hle ⊢
    by_cases h : (b == c) = true
    · simp [h]
    · simp only [h, Bool.false_eq_true, if_false, cond_false]
      by_cases h2 : p < l.length
      · rw [if_pos h2, if_neg (by simp), if_pos (by omega)]; omega
      · rw [if_neg h2, if_pos (by decide), if_neg (by omega)]

set_option maxHeartbeats 4000000 in
set_option maxRecDepth 100000 in
theorem stringslite_IndexByte.calls (s : ByteArray) (c : Int) (w : World) :
    Calls Try.prog 75 #[.string s, .int .u8 c] w fun e w' => e = .returned (.int .i64 (Lib.indexByte s.data.toList c.toNat.toUInt8)) ∧ w' = w := by
  go_enter Try.func75, Try.ntmps75
  go_wp2
  rw [run_callFunc_extern Try.func80 (by kernel_rfl) (by kernel_rfl) (by kernel_rfl) (e := Extern.BytealgIndexByte.indexByte) (by kernel_rfl), Lib.run_indexByteString]
  simp only [Result.andThen]
  rw [Oper.upon_value]
  go_wp2
  go_ret
  exact ⟨rfl, rfl⟩

set_option maxHeartbeats 4000000 in
set_option maxRecDepth 100000 in
theorem stringslite_Index.one (a0 : ByteArray) (c : UInt8) (w : World) :
    Calls Try.prog 70 #[.string a0, .string ⟨#[c]⟩] w fun e w' => e = .returned (.int .i64 (Lib.indexByte a0.data.toList c)) ∧ w' = w := by
  by_cases hc : ([c] == a0.toList) = true
  · go_enter Try.func70, Try.ntmps70
    go_wp2
    go_ret
    refine ⟨?_, rfl⟩
    have e : a0.data.toList = [c] := by rw [← ByteArray.toList_eq]; exact (beq_iff_eq.1 hc).symm
    rw [e]; simp [Lib.indexByte]
  · replace hc : ([c] == a0.toList) = false := by simpa using hc
    go_enter Try.func70, Try.ntmps70
    go_wp2_with (go_at_call 75; refine (stringslite_IndexByte.calls _ _ _).mono ?_; rintro e w' ⟨rfl, rfl⟩)
    go_ret
    exact ⟨by simp; rfl, rfl⟩

theorem stringslite_Index.calls (a0 : ByteArray) (a1 : ByteArray) (r : Int) (w : World) (h : stringslite_Index.f a0 a1 = some r) : Calls Try.prog 70 #[.string a0, .string a1] w fun e w' => e = .returned (.int .i64 r) ∧ Drawn0 w w' := by
  unfold stringslite_Index.f at h
  by_cases h1 : a1.size = 1
  · rw [if_pos h1] at h
    obtain ⟨c, rfl⟩ : ∃ c, a1 = ⟨#[c]⟩ := by
      cases a1 with
      | mk d =>
        have : d.size = 1 := h1
        obtain ⟨c, rfl⟩ := Array.size_eq_one_iff.1 this
        exact ⟨c, rfl⟩
    have e : Lib.indexByte a0.data.toList c = r := by
      rw [indexByte_find]
      injection h
    refine (stringslite_Index.one a0 c w).mono ?_
    rintro e' w' ⟨rfl, rfl⟩
    exact ⟨by rw [e], ⟨0, rfl⟩⟩
  · rw [if_neg h1] at h; cases h
end Go.Proofs.Yticdcfgjpopkoaa.P

namespace Go.Proofs.Yticdcfgjpopkoaa.P
open Go.RowKit Go.Proofs.YticdcfgjpopkoaaW.PrintWords Go.Proofs.YticdcfgjpopkoaaW.PrintLast Go.Proofs.YticdcfgjpopkoaaW.PrintMore
attribute [local go_sem] max2_int min2_int max_two min_two max_three min_three max_four min_four   -- for this text's walks alone
set_option linter.unusedVariables false
set_option linter.unusedSimpArgs false

/-! ### impl_set_text: function 58 -/
def impl_set_text.j0:Nat→Bool→List Bool→List Bool→Option (ByteArray × Bool)
 | 0,_,_,_=>none
 | k+1,x13,x235000,x235001=>if x13=true then (some ((⟨#[]⟩:ByteArray),false)) else ((impl_told.f x235000).bind fun t235=>(if t235.size+1≤9223372036854775807 then ((impl_told.f x235001).bind fun t236=>(if t235.size+1+t236.size≤9223372036854775807 then (if t235.size+1+t236.size+1≤9223372036854775807 then (some (((t235++(⟨#[40]⟩:ByteArray))++t236)++(⟨#[41]⟩:ByteArray),true)) else (none)) else (none))) else (none)))
def impl_set_text.f (k:Nat) (l0_0:List Bool) (l0_1:List Bool):Option (ByteArray × Bool):=if (l0_0.length:Int) > 60 then (impl_set_text.j0 k true l0_0 l0_1) else (impl_set_text.j0 k (decide ((l0_1.length:Int) > 60)) l0_0 l0_1)
theorem impl_set_text.mono_l:∀ k,(∀ y0 y1 y2,LeO (impl_set_text.j0 k y0 y1 y2) (impl_set_text.j0 (k+1) y0 y1 y2))
 | 0=>fun _ _ _ r h=>by simp [impl_set_text.j0] at h
 | k+1=>by
  have ih0:=impl_set_text.mono_l k
  ·intro y0 y1 y2
   unfold impl_set_text.j0
   repeat' first
   | (with_reducible exact ih0 _ _ _)
   | (with_reducible exact LeO.refl _)
   | (with_reducible exact LeO.none _)
   | (with_reducible refine LeO.ite ?_ ?_)
   | (with_reducible refine LeO.bind ?_ (fun _=>?_))
   | exact ih0 _ _ _
   | exact LeO.none _
   | refine LeO.ite ?_ ?_
   | refine LeO.bind ?_ (fun _=>?_)
theorem impl_set_text.mono:∀ a0 a1 k,LeO (impl_set_text.f k a0 a1) (impl_set_text.f (k+1) a0 a1):=by
 intro a0 a1 k
 have ih0:=impl_set_text.mono_l k
 unfold impl_set_text.f
 repeat' first
   | (with_reducible exact ih0 _ _ _)
   | (with_reducible exact LeO.refl _)
   | (with_reducible exact LeO.none _)
   | (with_reducible refine LeO.ite ?_ ?_)
   | (with_reducible refine LeO.bind ?_ (fun _=>?_))
   | exact ih0 _ _ _
   | exact LeO.none _
   | refine LeO.ite ?_ ?_
   | refine LeO.bind ?_ (fun _=>?_)
def impl_set_text.T3:Bool × List (List Nat × List Nat):=(true,[([],[]),([0],[0]),([1],[1]),([2],[2]),([],[]),([4],[4]),([5,2],[5]),([3,6],[3,6]),([7],[7]),([8,6,0,1,2,3,4,5,6,7,8],[8]),([9,0,1,2,3,4,5,6,7,8,9],[])])
def impl_set_text.B3:List Nat:=[0,1,3,7,0,16,55,127,255,511,1023]
theorem impl_set_text.tab3:rtab .any (opsOf Try.f58 3)=impl_set_text.T3:=by kernel_rfl
theorem impl_set_text.bits3:waitsOk impl_set_text.T3.2 impl_set_text.B3=true:=by kernel_rfl
set_option maxHeartbeats 8000000 in
set_option maxRecDepth 100000 in
theorem impl_set_text.calls (k:Nat) (A0_0:Option Addr) (c0_0:Nat) (l0_0:List Bool) (A0_1:Option Addr) (c0_1:Nat) (l0_1:List Bool) (r1:ByteArray) (r2:Bool) (w:World) (hr0_0:Kd.C Kd.bool w A0_0 l0_0.length l0_0) (hc0_0:l0_0.length≤c0_0) (hr0_1:Kd.C Kd.bool w A0_1 l0_1.length l0_1) (hc0_1:l0_1.length≤c0_1) (h:impl_set_text.f k l0_0 l0_1=some (r1,r2)) :
  Calls Try.prog 58 #[.agg #[.slice A0_0 l0_0.length c0_0,.slice A0_1 l0_1.length c0_1]] w fun e w'=>e=.returned (.tuple #[.string r1,.bool r2])∧Below w.heap.size w w':=by
 have hu43:=Try.underlying43
 have HR0_0:=Aside0.mk hr0_0
 have HC0_0:=Aside0.mk hc0_0
 clear hr0_0 hc0_0
 have HR0_1:=Aside0.mk hr0_1
 have HC0_1:=Aside0.mk hc0_1
 clear hr0_1 hc0_1
 have HB:=Aside0.mk (Below.refl w.heap.size w)
 have H:(if (l0_0.length:Int) > 60 then (impl_set_text.j0 k true l0_0 l0_1) else (impl_set_text.j0 k (decide ((l0_1.length:Int) > 60)) l0_0 l0_1))=some (r1,r2):=h
 clear h
 have HC2:=Aside0.mk H
 clear H
 go_enter Try.func58,Try.ntmps58
 go_upto_region 1 with (first|((with_reducible refine gate_dst (N:=1) rfl ?_);(try (refine gate_guard (by rfl) ?_;dsimp only));refine box_event ?hg (N:=1) ?hd (cs:=#[.slice A0_0 l0_0.length c0_0,.slice A0_1 l0_1.length c0_1]) (t:=43) ?hr ?_;(case hd=>rfl);(case hg=>rfl);(case hr=>first|(go_simp;done)|(go_simp;rfl));intro gb234 hg w3 hbox hb;have n0_:=Aside0.mk (yP (by repeat (first|(with_reducible first|exact HB.out|apply yA|apply yB|apply yC)|exact HB.out)) hb);have n1_:=Aside0.mk (hbox);have n2_:=Aside0.mk ((by rw [hg];exact (yQ (by repeat (first|(with_reducible first|exact HB.out|apply yA|apply yB|apply yC)|exact HB.out))):w.heap.size≤gb234));have n3_:=Aside0.mk ((by rw [hg];exact (yQ (by repeat (first|(with_reducible first|exact HB.out|apply yA|apply yB|apply yC)|exact HB.out))):w.heap.size≤gb234));clear HB;have HB:=n0_;have BK234:=n1_;have GW234:=n2_;have GE234:=n3_;clear n0_ n1_ n2_ n3_;clear hb hbox hg))
 (try simp only [Act.put,yK,yL,yM])
 go_cut [13] (fun v13 wc=>∃ (kq:Nat) (x13_1:Bool),v13=.bool x13_1∧Aside0 (impl_set_text.j0 kq x13_1 l0_0 l0_1=some (r1,r2))∧Aside0 (kq≤k)∧Aside0 (wc.heap[gb234]?=some (.cells #[(.slice A0_0 l0_0.length c0_0),(.slice A0_1 l0_1.length c0_1)] 43 (0,0)))∧Aside0 (Below w.heap.size w wc))
 case first =>
  have H:=HC2.out
  clear HC2
  by_cases c4:(l0_0.length:Int) > 60
  ·rw [if_pos c4] at H
   have c4b0:decide (60<(l0_0.length:Int))=true:=decide_eq_true c4
   have c4b1:decide (60<l0_0.length)=true:=decide_eq_true (by omega)
   clear c4
   (first|rw [c4b0]|(simp only [i64_w,i32_w];rw [c4b0])|skip)
   have H':=Aside0.mk H
   clear H
   have hcz5_0:w3.cell? ⟨gb234,0,none⟩=some (.slice A0_0 l0_0.length c0_0):=(blk_cell BK234.out 0).trans rfl
   have hcz5_1:w3.cell? ⟨gb234,1,none⟩=some (.slice A0_1 l0_1.length c0_1):=(blk_cell BK234.out 1).trans rfl
   have hfz5_0:=blk_frozen BK234.out 0
   have hfz5_1:=blk_frozen BK234.out 1
   go_wp2
   go_meet
   case rel=>exact ⟨_,(true),(by first|rfl|(simp;done)|(simp [*];done)|(simp [Int.tmod_eq_emod_of_nonneg];done)),H',⟨by first|omega|exact Nat.le_refl _⟩,⟨by (with_reducible repeat (first|refine yE ?_ _|refine yF ?_|refine yG ?_ _));exact BK234.out⟩,⟨by repeat (first|(with_reducible first|exact HB.out|apply yA|apply yB|apply yC|refine yD ?_ GE234.out)|exact HB.out)⟩⟩
  ·rw [if_neg c4] at H
   have c4b0:decide (60<(l0_0.length:Int))=false:=decide_eq_false c4
   have c4b1:decide (60<l0_0.length)=false:=decide_eq_false (by omega)
   clear c4
   (first|rw [c4b0]|(simp only [i64_w,i32_w];rw [c4b0])|skip)
   have H':=Aside0.mk H
   clear H
   have hcz6_0:w3.cell? ⟨gb234,0,none⟩=some (.slice A0_0 l0_0.length c0_0):=(blk_cell BK234.out 0).trans rfl
   have hcz6_1:w3.cell? ⟨gb234,1,none⟩=some (.slice A0_1 l0_1.length c0_1):=(blk_cell BK234.out 1).trans rfl
   have hfz6_0:=blk_frozen BK234.out 0
   have hfz6_1:=blk_frozen BK234.out 1
   go_wp2
   go_meet
   case rel=>exact ⟨_,(decide ((l0_1.length:Int) > 60)),(by first|rfl|(simp;done)|(simp [*];done)|(simp [Int.tmod_eq_emod_of_nonneg];done)),H',⟨by first|omega|exact Nat.le_refl _⟩,⟨by (with_reducible repeat (first|refine yE ?_ _|refine yF ?_|refine yG ?_ _));exact BK234.out⟩,⟨by repeat (first|(with_reducible first|exact HB.out|apply yA|apply yB|apply yC|refine yD ?_ GE234.out)|exact HB.out)⟩⟩
 case rest =>
  clear HC2
  try clear p2
  try clear c4
  try clear c4b0
  try clear c4b1
  try clear c5
  try clear hcz5_0
  try clear hcz5_1
  try clear hcz6_0
  try clear hcz6_1
  try clear hfz5_0
  try clear hfz5_1
  try clear hfz6_0
  try clear hfz6_1
  obtain ⟨kq,x13_1,rfl,HA,HJ1,BK234,HB⟩:=hcut
  cases kq with
  | zero=>exact absurd HA.out (by simp [impl_set_text.j0])
  | succ kj1 =>
   have H:=HA.out
   clear HA
   simp only [impl_set_text.j0] at H
   by_cases c7:x13_1=true
   ·subst c7
    have H1:(some ((⟨#[]⟩:ByteArray),false))=some (r1,r2):=by rw [if_pos rfl] at H;exact H
    clear H
    have H:=H1
    clear H1
    simp only [Option.some.injEq,Prod.mk.injEq] at H
    obtain ⟨rfl,rfl⟩:=H
    go_wp2
    go_ret2
    exact ⟨by first|rfl|(simp [errW_none,errW_some]<;>rfl)|(simp [*,errW_none,errW_some]<;>rfl)|(simp [errW_none,errW_some];exact ⟨rfl,rfl⟩),by repeat (first|(with_reducible first|exact HB.out|apply yA|apply yB|apply yC|refine yD ?_ GE234.out)|exact HB.out)⟩
   ·replace c7:=Bool.eq_false_iff.mpr c7
    subst c7
    have H1:((impl_told.f l0_0).bind fun t235=>(if t235.size+1≤9223372036854775807 then ((impl_told.f l0_1).bind fun t236=>(if t235.size+1+t236.size≤9223372036854775807 then (if t235.size+1+t236.size+1≤9223372036854775807 then (some (((t235++(⟨#[40]⟩:ByteArray))++t236)++(⟨#[41]⟩:ByteArray),true)) else (none)) else (none))) else (none)))=some (r1,r2):=by rw [if_neg (show ¬ (false=true) by decide)] at H;exact H
    clear H
    have H:=H1
    clear H1
    replace H:=Option.bind_eq_some_iff.mp H
    obtain ⟨t235,A80,H⟩:=H
    replace H:(if t235.size+1≤9223372036854775807 then ((impl_told.f l0_1).bind fun t236=>(if t235.size+1+t236.size≤9223372036854775807 then (if t235.size+1+t236.size+1≤9223372036854775807 then (some (((t235++(⟨#[40]⟩:ByteArray))++t236)++(⟨#[41]⟩:ByteArray),true)) else (none)) else (none))) else (none))=some (r1,r2):=H
    have A8:=Aside0.mk A80
    clear A80
    by_cases c9:t235.size+1≤9223372036854775807
    ·rw [if_pos c9] at H
     have c9b0:=eq_true c9
     have c9b1:decide (t235.size+1≤9223372036854775807)=true:=decide_eq_true c9
     try have c9b2:(9223372036854775807<t235.size+1)=False:=eq_false (Nat.not_lt.2 c9)
     replace H:=Option.bind_eq_some_iff.mp H
     obtain ⟨t236,A100,H⟩:=H
     replace H:(if t235.size+1+t236.size≤9223372036854775807 then (if t235.size+1+t236.size+1≤9223372036854775807 then (some (((t235++(⟨#[40]⟩:ByteArray))++t236)++(⟨#[41]⟩:ByteArray),true)) else (none)) else (none))=some (r1,r2):=H
     have A10:=Aside0.mk A100
     clear A100
     by_cases c11:t235.size+1+t236.size≤9223372036854775807
     ·rw [if_pos c11] at H
      have c11b0:=eq_true c11
      have c11b1:decide (t235.size+1+t236.size≤9223372036854775807)=true:=decide_eq_true c11
      try have c11b2:(9223372036854775807<t235.size+1+t236.size)=False:=eq_false (Nat.not_lt.2 c11)
      by_cases c12:t235.size+1+t236.size+1≤9223372036854775807
      ·rw [if_pos c12] at H
       have c12b0:=eq_true c12
       have c12b1:decide (t235.size+1+t236.size+1≤9223372036854775807)=true:=decide_eq_true c12
       try have c12b2:(9223372036854775807<t235.size+1+t236.size+1)=False:=eq_false (Nat.not_lt.2 c12)
       simp only [Option.some.injEq,Prod.mk.injEq] at H
       obtain ⟨rfl,rfl⟩:=H
       try go_wp2
       have n0_:=Aside0.mk (yF BK234.out)
       have n1_:=Aside0.mk (yC HB.out)
       clear BK234
       clear HB
       have BK234:=n0_
       have HB:=n1_
       clear n0_ n1_
       refine start_ (n:=11) (S:=fun w'=>w'.cell? ⟨gb234,0,none⟩=some (.slice A0_0 l0_0.length c0_0)∧w'.cell? ⟨gb234,1,none⟩=some (.slice A0_1 l0_1.length c0_1)) (ds:=[]) #[false,false,false,false,false,false,false,false,false,false,false] (by kernel_rfl) rfl rfl ⟨(blk_cell BK234.out 0).trans rfl,(blk_cell BK234.out 1).trans rfl⟩ (fun hHeld=>?_);refine with_tabW impl_set_text.tab3 impl_set_text.bits3 (fun HT_ HW_=>?_)
       generalize wc.drew=w13 at BK234 HB hHeld ⊢
       refine pure_ (i:=0) (N:=some 14) (v:=?_) (a':=?_) #[true,false,false,false,false,false,false,false,false,false,false] rfl rfl (any_of HT_.out (by kernel_rfl)) (fun _ _ _ h=>h) (Or.inl ⟨by rfl,?_⟩) ?_ ?_
       rotate_left
       ·intro w'
        go_simp
        with_reducible rfl
       rotate_left
       ·simp only [Act.put,yK,yL,yM,i64_w,i32_w]
        rfl
       refine pure_ (i:=4) (N:=some 18) (v:=?_) (a':=?_) #[true,false,false,false,true,false,false,false,false,false,false] rfl rfl (any_of HT_.out (by kernel_rfl)) (fun _ _ _ h=>h) (Or.inl ⟨by rfl,?_⟩) ?_ ?_
       rotate_left
       ·intro w'
        go_simp
        with_reducible rfl
       rotate_left
       ·simp only [Act.put,yK,yL,yM,i64_w,i32_w]
        rfl
       refine take_ (i:=1) (N:=some 15) (v:=?_) (a':=?_) #[true,true,false,false,true,false,false,false,false,false,false] rfl rfl (take_ofW HT_.out HW_.out (by kernel_rfl)) (fun _ _ _ h=>h) (Or.inl ⟨by rfl,?_⟩) hHeld ?_ ?_
       rotate_left
       ·rintro w' ⟨s0,s1⟩
        go_simp
        with_reducible rfl
       rotate_left
       ·simp only [Act.put,yK,yL,yM,i64_w,i32_w]
        rfl
       refine take_ (i:=5) (N:=some 19) (v:=?_) (a':=?_) #[true,true,false,false,true,true,false,false,false,false,false] rfl rfl (take_ofW HT_.out HW_.out (by kernel_rfl)) (fun _ _ _ h=>h) (Or.inl ⟨by rfl,?_⟩) hHeld ?_ ?_
       rotate_left
       ·rintro w' ⟨s0,s1⟩
        go_simp
        with_reducible rfl
       rotate_left
       ·simp only [Act.put,yK,yL,yM,i64_w,i32_w]
        rfl
       refine one_ (i:=2) (N:=some 16) #[true,true,true,false,true,true,false,false,false,false,false] rfl rfl (one_of HT_.out (by kernel_rfl)) (by decide) (fun K hK=>?_)
       refine goes_ Try.func68 (by kernel_rfl) rfl #[.slice A0_0 l0_0.length c0_0] (by rfl) rfl rfl (by (try simp only [List.map_toArray,List.map_cons,List.map_nil]);first|done|rfl|(simp only [List.length_drop,List.length_take];rfl)) ?_
       with_reducible refine (impl_told.calls _ _ l0_0 t235 _ ?side1 ?side2 A8.out).mono ?_
       (case side1=>repeat (first|exact (Kd.C_below HR0_0.out HB.out)|(with_reducible refine Kd.C_alloc ?_ _)|(with_reducible refine Kd.C_drewN ?_ _)|(with_reducible refine Kd.C_drew ?_)))
       (case side2=>exact HC0_0.out)
       rintro e w14 ⟨rfl,hb⟩
       refine ⟨_,rfl,?_⟩
       have n0_:=Aside0.mk (blk_below (g:=gb234) (o:=.cells #[.slice A0_0 l0_0.length c0_0,.slice A0_1 l0_1.length c0_1] 43 (0,0)) (by (with_reducible repeat (first|refine yE ?_ _|refine yF ?_|refine yG ?_ _));exact BK234.out) hb)
       have n1_:=Aside0.mk (yP (by repeat (first|(with_reducible first|exact HB.out|apply yA|apply yB|apply yC|refine yD ?_ GE234.out)|exact HB.out)) hb)
       clear BK234
       clear HB
       have BK234:=n0_
       have HB:=n1_
       clear n0_ n1_
       (try clear hb)
       (try clear hb2)
       (try clear hk)
       (try clear hi)
       refine hK.out _ _ ⟨(blk_cell BK234.out 0).trans rfl,(blk_cell BK234.out 1).trans rfl⟩ (fun hHeld=>?_)
       clear hK K
       refine norm_ (a':=?_) ?_ ?_
       rotate_left
       ·show Act.put _ (some 16) _=_
        simp only [Act.put,yK,yL,yM,i64_w,i32_w]
        rfl
       refine pure_ (i:=3) (N:=some 17) (v:=?_) (a':=?_) #[true,true,true,true,true,true,false,false,false,false,false] rfl rfl (any_of HT_.out (by kernel_rfl)) (fun _ _ _ h=>h) (Or.inl ⟨by rfl,?_⟩) ?_ ?_
       rotate_left
       ·intro w'
        go_simp
        with_reducible rfl
       rotate_left
       ·simp only [Act.put,yK,yL,yM,i64_w,i32_w]
        rfl
       refine one_ (i:=6) (N:=some 20) #[true,true,true,true,true,true,true,false,false,false,false] rfl rfl (one_of HT_.out (by kernel_rfl)) (by decide) (fun K hK=>?_)
       refine goes_ Try.func68 (by kernel_rfl) rfl #[.slice A0_1 l0_1.length c0_1] (by rfl) rfl rfl (by (try simp only [List.map_toArray,List.map_cons,List.map_nil]);first|done|rfl|(simp only [List.length_drop,List.length_take];rfl)) ?_
       with_reducible refine (impl_told.calls _ _ l0_1 t236 _ ?side1 ?side2 A10.out).mono ?_
       (case side1=>repeat (first|exact (Kd.C_below HR0_1.out HB.out)|(with_reducible refine Kd.C_alloc ?_ _)|(with_reducible refine Kd.C_drewN ?_ _)|(with_reducible refine Kd.C_drew ?_)))
       (case side2=>exact HC0_1.out)
       rintro e w15 ⟨rfl,hb⟩
       refine ⟨_,rfl,?_⟩
       have n0_:=Aside0.mk (blk_below (g:=gb234) (o:=.cells #[.slice A0_0 l0_0.length c0_0,.slice A0_1 l0_1.length c0_1] 43 (0,0)) (by (with_reducible repeat (first|refine yE ?_ _|refine yF ?_|refine yG ?_ _));exact BK234.out) hb)
       have n1_:=Aside0.mk (yP (by repeat (first|(with_reducible first|exact HB.out|apply yA|apply yB|apply yC|refine yD ?_ GE234.out)|exact HB.out)) hb)
       clear BK234
       clear HB
       have BK234:=n0_
       have HB:=n1_
       clear n0_ n1_
       (try clear hb)
       (try clear hb2)
       (try clear hk)
       (try clear hi)
       refine hK.out _ _ ⟨(blk_cell BK234.out 0).trans rfl,(blk_cell BK234.out 1).trans rfl⟩ (fun hHeld=>?_)
       clear hK K
       refine norm_ (a':=?_) ?_ ?_
       rotate_left
       ·show Act.put _ (some 20) _=_
        simp only [Act.put,yK,yL,yM,i64_w,i32_w]
        rfl
       refine pure_ (i:=7) (N:=some 21) (v:=?_) (a':=?_) #[true,true,true,true,true,true,true,true,false,false,false] rfl rfl (any_of HT_.out (by kernel_rfl)) (fun _ _ _ h=>h) (Or.inl ⟨by rfl,?_⟩) ?_ ?_
       rotate_left
       ·intro w'
        go_simp
        with_reducible rfl
       rotate_left
       ·simp only [Act.put,yK,yL,yM,i64_w,i32_w]
        rfl
       refine pure_ (i:=8) (N:=some 22) (v:=?_) (a':=?_) #[true,true,true,true,true,true,true,true,true,false,false] rfl rfl (any_of HT_.out (by kernel_rfl)) (fun _ _ _ h=>h) (Or.inl ⟨by rfl,?_⟩) ?_ ?_
       rotate_left
       ·intro w'
        go_simp
        with_reducible rfl
       rotate_left
       ·simp only [Act.put,yK,yL,yM,i64_w,i32_w]
        rfl
       refine pure_ (i:=9) (N:=some 2) (v:=?_) (a':=?_) #[true,true,true,true,true,true,true,true,true,true,false] rfl rfl (any_of HT_.out (by kernel_rfl)) (fun _ _ _ h=>h) (Or.inl ⟨by rfl,?_⟩) ?_ ?_
       rotate_left
       ·intro w'
        go_simp
        with_reducible rfl
       rotate_left
       ·simp only [Act.put,yK,yL,yM,i64_w,i32_w]
        rfl
       refine pure_ (i:=10) (N:=some 3) (v:=?_) (a':=?_) #[true,true,true,true,true,true,true,true,true,true,true] rfl rfl (any_of HT_.out (by kernel_rfl)) (fun _ _ _ h=>h) (Or.inl ⟨by rfl,?_⟩) ?_ ?_
       rotate_left
       ·intro w'
        go_simp
        with_reducible rfl
       rotate_left
       ·simp only [Act.put,yK,yL,yM,i64_w,i32_w]
        rfl
       refine done_ (done_of HT_.out (by kernel_rfl)) ?_
       try go_wp2
       go_ret2
       exact ⟨by first|rfl|(simp [errW_none,errW_some]<;>rfl)|(simp [*,errW_none,errW_some]<;>rfl)|(simp [errW_none,errW_some];exact ⟨rfl,rfl⟩),by repeat (first|(with_reducible first|exact HB.out|apply yA|apply yB|apply yC|refine yD ?_ GE234.out)|exact HB.out)⟩
      ·rw [if_neg c12] at H
       exact absurd H (by simp)
     ·rw [if_neg c11] at H
      exact absurd H (by simp)
    ·rw [if_neg c9] at H
     exact absurd H (by simp)

end Go.Proofs.Yticdcfgjpopkoaa.P

namespace Go.Proofs.Yticdcfgjpopkoaa.P
open Go.RowKit Go.Proofs.YticdcfgjpopkoaaW.PrintWords Go.Proofs.YticdcfgjpopkoaaW.PrintLast Go.Proofs.YticdcfgjpopkoaaW.PrintMore
set_option linter.unusedVariables false
set_option linter.unusedSimpArgs false

theorem bool_info : (Try.prog.info? 4).map (fun i => (i.zero, i.size, i.bytes)) = some (some (.bool false), 1, 1) := by kernel_rfl
theorem take_bools {l : List Bool} {k : Nat} (h : k < l.length) : (l.take (k + 1)).map Value.bool = (l.take k).map Value.bool ++ [.bool (l.getD k false)] := by
  rw [List.take_succ_eq_append_getElem h, List.map_append, List.getD_eq_getElem?_getD, List.getElem?_eq_getElem h]; rfl

theorem frozen_alloc_old {w : World} {a : Addr} (h : w.frozen? a = false) (hl : a.block < w.heap.size) (o : Obj) : (w.alloc o).frozen? a = false :=
  (World.frozen?_of_block (Below.heap_alloc w o a.block hl)).trans h
theorem getD_left {t r : List Bool} {i : Nat} (h : i < t.length) : (t ++ r).getD i false = t.getD i false := by
  rw [List.getD_eq_getElem?_getD, List.getD_eq_getElem?_getD, List.getElem?_append_left h]
theorem getD_right {t r : List Bool} (i : Nat) : (t ++ r).getD (t.length + i) false = r.getD i false := by
  rw [List.getD_eq_getElem?_getD, List.getD_eq_getElem?_getD, List.getElem?_append_right (by omega), Nat.add_sub_cancel_left]
theorem own_set {w : World} {base : Nat} {e : TypeId} {size n : Nat} {v : Value} {xs : List Value} {b j : Nat} (h : w.ownsRow base e size v n xs) (hne : v.ownBlock ≠ some b) (u : Value) : (w.setCell ⟨b, j, none⟩ u).ownsRow base e size v n xs :=
  h.kept (row := some b) ⟨rfl, rfl, rfl, by simp [World.setCell], fun k _ hk => Below.heap_setCell _ _ _ _ (fun e => hk (by simp [e]))⟩ (Or.inr hne)
theorem set_cell0 {w : World} {b : Nat} {v0 v1 : Value} {T : TypeId} (h : w.heap[b]? = some (.cells #[v0, v1] T (0, 0))) (u : Value) : (w.setCell ⟨b, 0, none⟩ u).heap[b]? = some (.cells #[u, v1] T (0, 0)) := by
  simp [World.setCell, Array.getElem?_modify, h]
theorem set_cell1 {w : World} {b : Nat} {v0 v1 : Value} {T : TypeId} (h : w.heap[b]? = some (.cells #[v0, v1] T (0, 0))) (u : Value) : (w.setCell ⟨b, 1, none⟩ u).heap[b]? = some (.cells #[v0, u] T (0, 0)) := by
  simp [World.setCell, Array.getElem?_modify, h]
/-- A round: the call, the cell to be appended, the append. -/
theorem made_block {wr w1 w2 : World} {o ob : Obj} {row : Option Nat} {b : Nat} (hh : wr.heap[b]? = some o) (hb1 : Below wr.heap.size wr w1) (hg : (w1.alloc ob).grownBy w2 row) (hne : row ≠ some b) : w2.heap[b]? = some o := by
  have hl := blk_lt hh
  have h1 : w1.heap[b]? = some o := (hb1.block b hl).trans hh
  exact (hg.block b (by have := blk_lt h1; simp; omega) (Ne.symm hne)).trans ((Below.heap_alloc w1 ob b (blk_lt h1)).trans h1)

set_option maxHeartbeats 16000000 in
set_option maxRecDepth 100000 in
theorem impl_made.calls (k : Nat) (t r : List Bool) (r1 : ByteArray) (r2 : Bool) (g : Nat) (lb : Array Value) (w : World)
    (eg : ∀ args w, (callFunc g args).run Try.prog w = .ok (.enter g args) w)
    (hp : ∀ (W : World) (i : Nat), Below w.heap.size w W → i < t.length + r.length → Calls Try.prog g (#[.int .i64 i] ++ lb) W fun e w' => e = .returned (.bool ((t ++ r).getD i false)) ∧ Below W.heap.size W w')
    (hl : t.length + r.length ≤ 1000000) (h : (impl_set_tidy.f k t r).bind (fun y => impl_set_text.f k y.1 y.2) = some (r1, r2)) :
    Calls Try.prog 36 #[.int .i64 t.length, .int .i64 r.length, .func (.func g) #[] lb] w fun e w' => e = .returned (.tuple #[.string r1, .bool r2]) ∧ Below w.heap.size w w' := by
  obtain ⟨i0, hi, hz0, hz1, hz2⟩ := info_parts bool_info
  have HL := Aside0.mk hl
  have HP := Aside0.mk hp
  have HX := Aside0.mk h
  clear hp h hl
  go_enter Try.func36, Try.ntmps36
  go_wp2
  go_loopg [12] t.length (fun gg s12 wr => ∃ (k : Nat) (v0 : Value), k ≤ t.length ∧ t.length - k ≤ gg ∧ s12 = .int .i64 k ∧ Aside0 (wr.heap[w.heap.size]? = some (.cells #[v0, .slice none 0 0] 43 (0, 0))) ∧ Aside0 (wr.ownsRow w.heap.size 4 1 v0 k ((t.take k).map Value.bool)) ∧ Aside0 (Below w.heap.size w wr))
  case atStart =>
    exact ⟨0, .slice none 0 0, Nat.zero_le _, by omega, rfl, ⟨heap_alloc_new _ _⟩, ⟨World.ownsRow_nil _ _ _ _⟩, ⟨below_alloc (Below.refl _ _) _⟩⟩
  case round =>
    obtain ⟨kk, v0, hk, hgg, rfl, HH, HO, HB⟩ := hrel
    by_cases hlt : kk < t.length
    · obtain ⟨bv, hbv⟩ : ∃ bv, (t ++ r).getD kk false = bv := ⟨_, rfl⟩
      have hcall : ∀ W, Below w.heap.size w W → Calls Try.prog g (#[.int .i64 kk] ++ lb) W fun e w' => e = .returned (.bool bv) ∧ Below W.heap.size W w' := fun W hW => by
        have := HP.out W kk hW (by omega)
        rw [hbv] at this; exact this
      have hlen := HL.out
      have c0 : wr.cell? ⟨w.heap.size, 0, none⟩ = some v0 := by rw [Lib.cell_of_heap HH.out]; rfl
      have f0 : wr.frozen? ⟨w.heap.size, 0, none⟩ = false := Lib.frozen_of_heap HH.out 0
      have hbl : w.heap.size < wr.heap.size := World.block_lt_of_cell? wr _ c0
      have hne : v0.ownBlock ≠ some w.heap.size := Lib.ownBlock_ne HO.out HH.out (by decide)
      have HV := Aside0.mk hbv
      have HCall := Aside0.mk hcall
      clear hbv hcall
      go_wp2_with fail
      go_region_law ((first
          | (go_simp; go_at_fn g; refine (HCall.out _ (by repeat (first | exact HB.out | apply below_drew1))).mono ?_; rintro e w1 ⟨rfl, hb0⟩; have hb1 : Below wr.heap.size wr w1 := ⟨hb0.os, hb0.tape, hb0.output, hb0.size, hb0.block⟩; have c1 : w1.cell? ⟨w.heap.size, 0, none⟩ = some v0 := (hb1.cell (p := ⟨w.heap.size, 0, none⟩) hbl).trans c0; have f1 : w1.frozen? ⟨w.heap.size, 0, none⟩ = false := (hb1.frozen (p := ⟨w.heap.size, 0, none⟩) hbl).trans f0; have hl1 := Nat.lt_of_lt_of_le hbl hb1.size; have hlN := Nat.le_trans (Nat.le_of_lt hbl) hb1.size; have c1a : ∀ o, (w1.alloc o).cell? ⟨w.heap.size, 0, none⟩ = some v0 := fun o => Lib.cell?_alloc_some _ c1)
          | (refine step_append_lies _ (by rfl) _ _ _ (by rfl) w.heap.size 4 i0 _ 1 1 Try.underlying41 hi hz0 hz1 hz2 rfl (by omega) v0 kk ((t.take kk).map Value.bool) (by rfl) (pw_own_below HO.out (by repeat (first | exact hb1 | apply below_alloc | apply below_drew1))) ⟨w1.heap.size, 0, none⟩ 1 1 [.bool bv] (by rfl) (by rfl) (World.news_of_block (cs := #[.bool bv]) (t := 4) (fr := (0, 0)) (heap_alloc_new _ _)) (by simp [Value.oneCell']) (by omega) (by unfold maxLen; omega) (by omega) (by simp; omega) _ rfl ?_; intro gg cap w2 hown2 hgrow hat hlt2; have f2 : w2.frozen? ⟨w.heap.size, 0, none⟩ = false := (hgrow.frozen_far ⟨w.heap.size, 0, none⟩ (by simp; omega) (Ne.symm hne)).trans (frozen_alloc_old f1 hl1 _); have c2 : w2.cell? ⟨w.heap.size, 0, none⟩ = some v0 := (hgrow.cell_far ⟨w.heap.size, 0, none⟩ (by simp; omega) (Ne.symm hne)).trans (c1a _))))
      all_goals
        go_wp2
        go_roundg (t.length - (kk + 1))
        case measure => omega
        case rel =>
          have hw2 := made_block HH.out hb1 hgrow hne
          have e : t.getD kk false = bv := (getD_left hlt).symm.trans HV.out
          refine ⟨kk + 1, _, by omega, by omega, by go_num, ⟨set_cell0 hw2 _⟩, ⟨?_⟩, ⟨((below_alloc (below_step HB.out hb1) _).grown hgrow (by have := hb1.size; simp; omega) (fun k hk => (HO.out.lt k hk).1)).setCell (Nat.le_refl _) _⟩⟩
          rw [take_bools hlt, e]
          exact own_set hown2 (Lib.ownBlock_ne hown2 hw2 (by decide)) _
    · have e : kk = t.length := by omega
      subst e
      have e : t.take t.length = t := List.take_of_length_le (Nat.le_refl _)
      rw [e] at HO
      clear e
      obtain ⟨B2, hB2⟩ : ∃ B2, wr.heap.size = B2 := ⟨_, rfl⟩
      have hv0 : ∀ k, v0.ownBlock = some k → k < B2 := fun k hk => by rw [← hB2]; exact (HO.out.lt k hk).2
      have hn0 : v0.ownBlock ≠ some w.heap.size := Lib.ownBlock_ne HO.out HH.out (by decide)
      have HB2 := Aside0.mk hB2
      have HV0 := Aside0.mk hv0
      have HN0 := Aside0.mk hn0
      clear hB2 hv0 hn0
      go_wp2
      go_loopg [25] r.length (fun gg s25 wq => ∃ (k : Nat) (v1 : Value), k ≤ r.length ∧ r.length - k ≤ gg ∧ s25 = .int .i64 k ∧ Aside0 (wq.heap[w.heap.size]? = some (.cells #[v0, v1] 43 (0, 0))) ∧ Aside0 (wq.ownsRow w.heap.size 4 1 v0 t.length (t.map Value.bool)) ∧ Aside0 (wq.ownsRow B2 4 1 v1 k ((r.take k).map Value.bool)) ∧ Aside0 (Below w.heap.size w wq) ∧ Aside0 (B2 ≤ wq.heap.size) ∧ Aside0 (w.heap.size < B2))
      case atStart =>
        exact ⟨0, .slice none 0 0, Nat.zero_le _, by omega, rfl, HH, HO, ⟨World.ownsRow_nil _ _ _ _⟩, HB, ⟨Nat.le_of_eq HB2.out.symm⟩, ⟨by have := blk_lt HH.out; have := HB2.out; omega⟩⟩
      case round =>
        clear HO HH HB
        clear hk hgg hlt
        clear HB2
        obtain ⟨kk, v1, hk, hgg, rfl, HH, HO, HR, HB, HQ, HL2⟩ := hrel
        by_cases hlt : kk < r.length
        · obtain ⟨bv, hbv⟩ : ∃ bv, (t ++ r).getD (t.length + kk) false = bv := ⟨_, rfl⟩
          have hsum : IntKind.i64.wrap ((t.length : Int) + (kk : Int)) = ((t.length + kk : Nat) : Int) := by rw [IntKind.wrap_i64]; have := HL.out; omega
          have hcall : ∀ W, Below w.heap.size w W → Calls Try.prog g (#[.int .i64 ((t.length + kk : Nat) : Int)] ++ lb) W fun e w' => e = .returned (.bool bv) ∧ Below W.heap.size W w' := fun W hW => by
            have := HP.out W (t.length + kk) hW (by omega)
            rw [hbv] at this; exact this
          have hlen := HL.out
          have c0 : wr.cell? ⟨w.heap.size, 1, none⟩ = some v1 := by rw [Lib.cell_of_heap HH.out]; rfl
          have f0 : wr.frozen? ⟨w.heap.size, 1, none⟩ = false := Lib.frozen_of_heap HH.out 1
          have hbl : w.heap.size < wr.heap.size := World.block_lt_of_cell? wr _ c0
          have hne : v1.ownBlock ≠ some w.heap.size := Lib.ownBlock_ne HR.out HH.out (by decide)
          have HV := Aside0.mk hbv
          have HCall := Aside0.mk hcall
          clear hbv hcall
          go_wp2_with fail
          go_region_law ((first
              | (go_simp; go_at_fn g; refine (HCall.out _ (by repeat (first | exact HB.out | apply below_drew1))).mono ?_; rintro e w1 ⟨rfl, hb0⟩; have hb1 : Below wr.heap.size wr w1 := ⟨hb0.os, hb0.tape, hb0.output, hb0.size, hb0.block⟩; have c1 : w1.cell? ⟨w.heap.size, 1, none⟩ = some v1 := (hb1.cell (p := ⟨w.heap.size, 1, none⟩) hbl).trans c0; have f1 : w1.frozen? ⟨w.heap.size, 1, none⟩ = false := (hb1.frozen (p := ⟨w.heap.size, 1, none⟩) hbl).trans f0; have hl1 := Nat.lt_of_lt_of_le hbl hb1.size; have hlN := Nat.le_trans HQ.out hb1.size; have c1a : ∀ o, (w1.alloc o).cell? ⟨w.heap.size, 1, none⟩ = some v1 := fun o => Lib.cell?_alloc_some _ c1)
              | (refine step_append_lies _ (by rfl) _ _ _ (by rfl) B2 4 i0 _ 1 1 Try.underlying41 hi hz0 hz1 hz2 rfl (by omega) v1 kk ((r.take kk).map Value.bool) (by rfl) (pw_own_below HR.out (by repeat (first | exact hb1 | apply below_alloc | apply below_drew1))) ⟨w1.heap.size, 0, none⟩ 1 1 [.bool bv] (by rfl) (by rfl) (World.news_of_block (cs := #[.bool bv]) (t := 4) (fr := (0, 0)) (heap_alloc_new _ _)) (by simp [Value.oneCell']) (by omega) (by unfold maxLen; omega) (by omega) (by simp; omega) _ rfl ?_; intro gg cap w2 hown2 hgrow hat hlt2; have f2 : w2.frozen? ⟨w.heap.size, 1, none⟩ = false := (hgrow.frozen_far ⟨w.heap.size, 1, none⟩ (by simp; omega) (Ne.symm hne)).trans (frozen_alloc_old f1 hl1 _); have c2 : w2.cell? ⟨w.heap.size, 1, none⟩ = some v1 := (hgrow.cell_far ⟨w.heap.size, 1, none⟩ (by simp; omega) (Ne.symm hne)).trans (c1a _))))
          all_goals
            go_wp2
            go_roundg (r.length - (kk + 1))
            case measure => omega
            case rel =>
              have hw2 := made_block HH.out hb1 hgrow hne
              have e : r.getD kk false = bv := (getD_right kk).symm.trans HV.out
              have hsz := hb1.size
              have hB2 := HQ.out
              have hown0 := ((pw_own_below HO.out hb1).alloc (Obj.cells #[.bool bv] 4)).kept hgrow (Classical.byCases (fun h : v0.ownBlock = none => Or.inl h) (fun h => Or.inr (fun e => by
                obtain ⟨q, hq⟩ := Option.ne_none_iff_exists'.1 h
                have h1 := HV0.out q hq
                have h2 := (HR.out.lt q (e.symm.trans hq)).1
                omega)))
              refine ⟨kk + 1, _, by omega, by omega, by go_num, ⟨set_cell1 hw2 _⟩, ⟨own_set hown0 HN0.out _⟩, ⟨?_⟩, ⟨((below_alloc (below_step HB.out hb1) _).grown hgrow (by simp; omega) (fun k hk => by have := (HR.out.lt k hk).1; have := HL2.out; omega)).setCell (Nat.le_refl _) _⟩, ⟨by have := hgrow.size; simp [World.setCell] at this ⊢; omega⟩, HL2⟩
              rw [take_bools hlt, e]
              exact own_set hown2 (Lib.ownBlock_ne hown2 hw2 (by decide)) _
        · have e : kk = r.length := by omega
          subst e
          have e : r.take r.length = r := List.take_of_length_le (Nat.le_refl _)
          rw [e] at HR
          have hX := HX.out
          cases hy : impl_set_tidy.f k t r with
          | none => rw [hy] at hX; cases hX
          | some y =>
            rw [hy] at hX
            obtain ⟨A0, n0, rfl, hn0, hC0⟩ := Kd.R_reads (d := Kd.bool) (Kd.R_of_own (ok := fun _ => True) HO.out (fun _ _ => trivial))
            obtain ⟨A1, n1, rfl, hn1, hC1⟩ := Kd.R_reads (d := Kd.bool) (Kd.R_of_own (ok := fun _ => True) HR.out (fun _ _ => trivial))
            have c0 : wr.cell? ⟨w.heap.size, 0, none⟩ = some (.slice A0 t.length n0) := by rw [Lib.cell_of_heap HH.out]; rfl
            have c1 : wr.cell? ⟨w.heap.size, 1, none⟩ = some (.slice A1 r.length n1) := by rw [Lib.cell_of_heap HH.out]; rfl
            have ht := impl_set_tidy.calls k A0 n0 t A1 n1 r y.1 y.2 wr hC0 hn0 hC1 hn1 hy
            have hX2 : impl_set_text.f k y.1 y.2 = some (r1, r2) := hX
            have HX2 := Aside0.mk hX2
            have HT := Aside0.mk ht
            have HB' := HB
            have hu := Try.underlying43
            clear HB HX hX hX2 ht HP HL HL2 HQ HR HO HH hy hC0 hC1 HN0 HV0 hgg hk hlt hn0 hn1 e
            go_wp2_with (first
              | (go_at_call 57; refine HT.out.mono ?_; rintro e w1 ⟨v0_, v1_, rfl, hR0, hR1, hb1⟩; obtain ⟨A2, n2, rfl, hn2, hC2⟩ := Kd.R_reads hR0; obtain ⟨A3, n3, rfl, hn3, hC3⟩ := Kd.R_reads hR1; have HT2 := Aside0.mk (impl_set_text.calls k A2 n2 y.1 A3 n3 y.2 r1 r2 w1 hC2 hn2 hC3 hn3 HX2.out); have HB1 := Aside0.mk (below_step HB'.out hb1); clear hR0 hR1 hC2 hC3 hn2 hn3 hb1 HT)
              | (go_at_call 58; refine HT2.out.mono ?_; rintro e w2 ⟨rfl, hb2⟩))
            go_ret2
            exact ⟨rfl, below_step HB1.out hb2⟩
end Go.Proofs.Yticdcfgjpopkoaa.P

namespace Go.Proofs.Yticdcfgjpopkoaa.P
open Go.RowKit Go.Proofs.YticdcfgjpopkoaaW.PrintWords Go.Proofs.YticdcfgjpopkoaaW.PrintLast Go.Proofs.YticdcfgjpopkoaaW.PrintMore
attribute [local go_sem] max2_int min2_int max_two min_two max_three min_three max_four min_four   -- for this text's walks alone
set_option linter.unusedVariables false
set_option linter.unusedSimpArgs false

/-! ### stringslite_Cut: function 64 -/
def stringslite_Cut.f (a0:ByteArray) (a1:ByteArray):Option (ByteArray × ByteArray × Bool):=(stringslite_Index.f a0 a1).bind fun t136=>(if t136 ≥ 0 then (if 0≤t136 then (if t136≤(a0.size:Int) then (if 0≤(wrap64 (t136+(a1.size:Int))) then (if (wrap64 (t136+(a1.size:Int)))≤(a0.size:Int) then (some (a0.extract 0 (t136:Int).toNat,a0.extract ((wrap64 (t136+(a1.size:Int))):Int).toNat a0.size,true)) else (none)) else (none)) else (none)) else (none)) else (some (a0,(⟨#[]⟩:ByteArray),false)))
set_option maxHeartbeats 8000000 in
set_option maxRecDepth 100000 in
theorem stringslite_Cut.calls (a0:ByteArray) (a1:ByteArray) (r1:ByteArray) (r2:ByteArray) (r3:Bool) (w:World) (h:stringslite_Cut.f a0 a1=some (r1,r2,r3)) :
  Calls Try.prog 64 #[.string a0,.string a1] w fun e w'=>e=.returned (.tuple #[.string r1,.string r2,.bool r3])∧Drawn0 w w':=by
 have H:((stringslite_Index.f a0 a1).bind fun t136=>(if t136 ≥ 0 then (if 0≤t136 then (if t136≤(a0.size:Int) then (if 0≤(wrap64 (t136+(a1.size:Int))) then (if (wrap64 (t136+(a1.size:Int)))≤(a0.size:Int) then (some (a0.extract 0 (t136:Int).toNat,a0.extract ((wrap64 (t136+(a1.size:Int))):Int).toNat a0.size,true)) else (none)) else (none)) else (none)) else (none)) else (some (a0,(⟨#[]⟩:ByteArray),false))))=some (r1,r2,r3):=h
 clear h
 replace H:=Option.bind_eq_some_iff.mp H
 obtain ⟨t136,A30,H⟩:=H
 replace H:(if t136 ≥ 0 then (if 0≤t136 then (if t136≤(a0.size:Int) then (if 0≤(wrap64 (t136+(a1.size:Int))) then (if (wrap64 (t136+(a1.size:Int)))≤(a0.size:Int) then (some (a0.extract 0 (t136:Int).toNat,a0.extract ((wrap64 (t136+(a1.size:Int))):Int).toNat a0.size,true)) else (none)) else (none)) else (none)) else (none)) else (some (a0,(⟨#[]⟩:ByteArray),false)))=some (r1,r2,r3):=H
 have A3:=Aside0.mk A30
 clear A30
 by_cases c4:t136 ≥ 0
 ·rw [if_pos c4] at H
  have c4b0:decide (0≤t136)=true:=decide_eq_true c4
  clear c4
  by_cases c5:0≤t136
  ·rw [if_pos c5] at H
   have c5b0:=eq_true c5
   have c5b1:decide (0≤t136)=true:=decide_eq_true c5
   clear c5
   by_cases c6:t136≤(a0.size:Int)
   ·rw [if_pos c6] at H
    have c6b0:=eq_true c6
    have c6b1:decide (t136≤(a0.size:Int))=true:=decide_eq_true c6
    clear c6
    obtain ⟨ji7,hji7⟩:∃ j_:Int,(wrap64 (t136+(a1.size:Int)))=j_:=⟨_,rfl⟩
    replace H:(if 0≤(ji7) then (if (ji7)≤(a0.size:Int) then (some (a0.extract 0 (t136:Int).toNat,a0.extract ((ji7):Int).toNat a0.size,true)) else (none)) else (none))=some (r1,r2,r3):=by first|(rw [hji7] at H;exact H)|(simp only [hji7] at H ⊢;exact H)
    (try rw [hji7] at A3)
    have hji7w:(IntKind.i64.wrap (t136+(a1.size:Int)))=ji7:=(i64_w _).trans hji7
    by_cases c8:0≤(ji7)
    ·rw [if_pos c8] at H
     have c8b0:=eq_true c8
     have c8b1:decide (0≤(ji7))=true:=decide_eq_true c8
     clear c8
     by_cases c9:(ji7)≤(a0.size:Int)
     ·rw [if_pos c9] at H
      have c9b0:=eq_true c9
      have c9b1:decide ((ji7)≤(a0.size:Int))=true:=decide_eq_true c9
      clear c9
      simp only [Option.some.injEq,Prod.mk.injEq] at H
      obtain ⟨rfl,rfl,rfl⟩:=H
      go_enter Try.func64,Try.ntmps64
      go_wp2_with (first|(go_at_call 70;(with_reducible refine (stringslite_Index.calls a0 a1 t136 _ A3.out).mono ?_);rintro e w' ⟨rfl,⟨nd,rfl⟩⟩;(try first|exact ⟨rfl,_,World.drewN_drewN _ _ _⟩|exact ⟨rfl,_,Eq.trans (World.drewN_drewN _ _ _) (congrArg (World.drewN _) (Nat.add_assoc _ _ _))⟩)))
      repeat (go_quiet (first|(go_at_call 70;(with_reducible refine (stringslite_Index.calls a0 a1 t136 _ A3.out).mono ?_);rintro e w' ⟨rfl,⟨nd,rfl⟩⟩;(try first|exact ⟨rfl,_,World.drewN_drewN _ _ _⟩|exact ⟨rfl,_,Eq.trans (World.drewN_drewN _ _ _) (congrArg (World.drewN _) (Nat.add_assoc _ _ _))⟩)));try go_wp2_with (first|(go_at_call 70;(with_reducible refine (stringslite_Index.calls a0 a1 t136 _ A3.out).mono ?_);rintro e w' ⟨rfl,⟨nd,rfl⟩⟩;(try first|exact ⟨rfl,_,World.drewN_drewN _ _ _⟩|exact ⟨rfl,_,Eq.trans (World.drewN_drewN _ _ _) (congrArg (World.drewN _) (Nat.add_assoc _ _ _))⟩))))
      go_ret3
      exact ⟨by first|rfl|(simp;done)|(simp only [← hji7]<;>(first|rfl|simp))|(simp [*];done),by repeat (first|exact Drawn0.refl _|apply Drawn0.step)⟩
     ·rw [if_neg c9] at H
      exact absurd H (by simp)
    ·rw [if_neg c8] at H
     exact absurd H (by simp)
   ·rw [if_neg c6] at H
    exact absurd H (by simp)
  ·rw [if_neg c5] at H
   exact absurd H (by simp)
 ·rw [if_neg c4] at H
  have c4b0:decide (0≤t136)=false:=decide_eq_false c4
  clear c4
  simp only [Option.some.injEq,Prod.mk.injEq] at H
  obtain ⟨rfl,rfl,rfl⟩:=H
  go_enter Try.func64,Try.ntmps64
  go_wp2_with (first|(go_at_call 70;(with_reducible refine (stringslite_Index.calls a0 a1 t136 _ A3.out).mono ?_);rintro e w' ⟨rfl,⟨nd,rfl⟩⟩;(try first|exact ⟨rfl,_,World.drewN_drewN _ _ _⟩|exact ⟨rfl,_,Eq.trans (World.drewN_drewN _ _ _) (congrArg (World.drewN _) (Nat.add_assoc _ _ _))⟩)))
  repeat (go_quiet (first|(go_at_call 70;(with_reducible refine (stringslite_Index.calls a0 a1 t136 _ A3.out).mono ?_);rintro e w' ⟨rfl,⟨nd,rfl⟩⟩;(try first|exact ⟨rfl,_,World.drewN_drewN _ _ _⟩|exact ⟨rfl,_,Eq.trans (World.drewN_drewN _ _ _) (congrArg (World.drewN _) (Nat.add_assoc _ _ _))⟩)));try go_wp2_with (first|(go_at_call 70;(with_reducible refine (stringslite_Index.calls a0 a1 t136 _ A3.out).mono ?_);rintro e w' ⟨rfl,⟨nd,rfl⟩⟩;(try first|exact ⟨rfl,_,World.drewN_drewN _ _ _⟩|exact ⟨rfl,_,Eq.trans (World.drewN_drewN _ _ _) (congrArg (World.drewN _) (Nat.add_assoc _ _ _))⟩))))
  go_ret3
  exact ⟨by first|rfl|(simp;done)|(simp [*];done),by repeat (first|exact Drawn0.refl _|apply Drawn0.step)⟩

end Go.Proofs.Yticdcfgjpopkoaa.P

namespace Go.Proofs.Yticdcfgjpopkoaa.P
open Go.RowKit Go.Proofs.YticdcfgjpopkoaaW.PrintWords Go.Proofs.YticdcfgjpopkoaaW.PrintLast Go.Proofs.YticdcfgjpopkoaaW.PrintMore
attribute [local go_sem] max2_int min2_int max_two min_two max_three min_three max_four min_four   -- for this text's walks alone
set_option linter.unusedVariables false
set_option linter.unusedSimpArgs false

/-! ### strings_Cut: function 52 -/
def strings_Cut.f (a0:ByteArray) (a1:ByteArray):Option (ByteArray × ByteArray × Bool):=(stringslite_Cut.f a0 a1).bind fun bt137=>(some (bt137.1,bt137.2.1,bt137.2.2))
set_option maxHeartbeats 8000000 in
set_option maxRecDepth 100000 in
theorem strings_Cut.calls (a0:ByteArray) (a1:ByteArray) (r1:ByteArray) (r2:ByteArray) (r3:Bool) (w:World) (h:strings_Cut.f a0 a1=some (r1,r2,r3)) :
  Calls Try.prog 52 #[.string a0,.string a1] w fun e w'=>e=.returned (.tuple #[.string r1,.string r2,.bool r3])∧Drawn0 w w':=by
 have H:((stringslite_Cut.f a0 a1).bind fun bt137=>(some (bt137.1,bt137.2.1,bt137.2.2)))=some (r1,r2,r3):=h
 clear h
 replace H:=Option.bind_eq_some_iff.mp H
 obtain ⟨⟨t137,t138,t139⟩,A30,H⟩:=H
 replace H:(some (t137,t138,t139))=some (r1,r2,r3):=H
 have A3:=Aside0.mk A30
 clear A30
 simp only [Option.some.injEq,Prod.mk.injEq] at H
 obtain ⟨rfl,rfl,rfl⟩:=H
 go_enter Try.func52,Try.ntmps52
 go_wp2_with (first|((with_reducible refine gate_callee (f:=64) rfl ?_);refine goesL_ (some 9) rfl rfl Try.func64 (by kernel_rfl) rfl #[.string a0,.string a1] rfl (by (try simp only [List.map_toArray,List.map_cons,List.map_nil]);first|done|rfl|(simp only [List.length_drop,List.length_take];rfl)) ?_;(with_reducible refine (stringslite_Cut.calls a0 a1 t137 t138 t139 _ A3.out).mono ?_);rintro e w' ⟨rfl,⟨nd,rfl⟩⟩;refine ⟨_,rfl,?_⟩))
 go_ret3
 exact ⟨by first|rfl|(simp;done)|(simp [*];done),by repeat (first|exact Drawn0.refl _|apply Drawn0.step)⟩

end Go.Proofs.Yticdcfgjpopkoaa.P

namespace Go.Proofs.Yticdcfgjpopkoaa.P
open Go.RowKit Go.Proofs.YticdcfgjpopkoaaW.PrintWords Go.Proofs.YticdcfgjpopkoaaW.PrintLast Go.Proofs.YticdcfgjpopkoaaW.PrintMore
attribute [local go_sem] max2_int min2_int max_two min_two max_three min_three max_four min_four   -- for this text's walks alone
set_option linter.unusedVariables false
set_option linter.unusedSimpArgs false

/-! ### impl_setOf: function 26 -/
def impl_setOf.f (k:Nat) (a0:ByteArray):Option (List Bool × List Bool × Bool):=(strings_Cut.f a0 (⟨#[40]⟩:ByteArray)).bind fun bt154=>((strings_CutSuffix.f bt154.2.1 (⟨#[41]⟩:ByteArray)).bind fun bt157=>((impl_signs.f k bt154.1).bind fun bt159=>((impl_signs.f k bt157.1).bind fun bt163=>(if bt154.2.2=true then (if bt157.2=true then (if bt159.2=true then (if bt163.2=true then (some (bt159.1,bt163.1,decide ((bt163.1.length:Int) > 0))) else (some (bt159.1,bt163.1,false))) else (some (bt159.1,bt163.1,false))) else (some (bt159.1,bt163.1,false))) else (some (bt159.1,bt163.1,false))))))
theorem impl_setOf.mono:∀ a0 k,LeO (impl_setOf.f k a0) (impl_setOf.f (k+1) a0):=by
 intro a0 k
 unfold impl_setOf.f
 repeat' first
   | (with_reducible exact impl_signs.mono _ _)
   | (with_reducible exact LeO.refl _)
   | (with_reducible exact LeO.none _)
   | (with_reducible refine LeO.ite ?_ ?_)
   | (with_reducible refine LeO.bind ?_ (fun _=>?_))
   | exact impl_signs.mono _ _
   | exact LeO.none _
   | refine LeO.ite ?_ ?_
   | refine LeO.bind ?_ (fun _=>?_)
set_option maxHeartbeats 8000000 in
set_option maxRecDepth 100000 in
theorem impl_setOf.calls (k:Nat) (a0:ByteArray) (r1:List Bool) (r2:List Bool) (r3:Bool) (w:World) (h:impl_setOf.f k a0=some (r1,r2,r3)) :
  Calls Try.prog 26 #[.string a0] w fun e w'=>∃ v0_ v1_:Value,e=.returned (.tuple #[.agg #[v0_,v1_],.bool r3])∧Kd.R Kd.bool 4 w' w.heap.size (fun k_=>some k_≠(v1_:Value).ownBlock) v0_ r1∧Kd.R Kd.bool 4 w' w.heap.size (fun k_=>some k_≠(v0_:Value).ownBlock) v1_ r2∧Below w.heap.size w w':=by
 have hu43:=Try.underlying43
 have HB:=Aside0.mk (Below.refl w.heap.size w)
 have H:((strings_Cut.f a0 (⟨#[40]⟩:ByteArray)).bind fun bt154=>((strings_CutSuffix.f bt154.2.1 (⟨#[41]⟩:ByteArray)).bind fun bt157=>((impl_signs.f k bt154.1).bind fun bt159=>((impl_signs.f k bt157.1).bind fun bt163=>(if bt154.2.2=true then (if bt157.2=true then (if bt159.2=true then (if bt163.2=true then (some (bt159.1,bt163.1,decide ((bt163.1.length:Int) > 0))) else (some (bt159.1,bt163.1,false))) else (some (bt159.1,bt163.1,false))) else (some (bt159.1,bt163.1,false))) else (some (bt159.1,bt163.1,false)))))))=some (r1,r2,r3):=h
 clear h
 replace H:=Option.bind_eq_some_iff.mp H
 obtain ⟨⟨t154,t155,t156⟩,A20,H⟩:=H
 replace H:((strings_CutSuffix.f t155 (⟨#[41]⟩:ByteArray)).bind fun bt157=>((impl_signs.f k t154).bind fun bt159=>((impl_signs.f k bt157.1).bind fun bt163=>(if t156=true then (if bt157.2=true then (if bt159.2=true then (if bt163.2=true then (some (bt159.1,bt163.1,decide ((bt163.1.length:Int) > 0))) else (some (bt159.1,bt163.1,false))) else (some (bt159.1,bt163.1,false))) else (some (bt159.1,bt163.1,false))) else (some (bt159.1,bt163.1,false))))))=some (r1,r2,r3):=H
 have A2:=Aside0.mk A20
 clear A20
 replace H:=Option.bind_eq_some_iff.mp H
 obtain ⟨⟨t157,t158⟩,A30,H⟩:=H
 replace H:((impl_signs.f k t154).bind fun bt159=>((impl_signs.f k t157).bind fun bt163=>(if t156=true then (if t158=true then (if bt159.2=true then (if bt163.2=true then (some (bt159.1,bt163.1,decide ((bt163.1.length:Int) > 0))) else (some (bt159.1,bt163.1,false))) else (some (bt159.1,bt163.1,false))) else (some (bt159.1,bt163.1,false))) else (some (bt159.1,bt163.1,false)))))=some (r1,r2,r3):=H
 have A3:=Aside0.mk A30
 clear A30
 replace H:=Option.bind_eq_some_iff.mp H
 obtain ⟨⟨t159,t160⟩,A40,H⟩:=H
 replace H:((impl_signs.f k t157).bind fun bt163=>(if t156=true then (if t158=true then (if t160=true then (if bt163.2=true then (some (t159,bt163.1,decide ((bt163.1.length:Int) > 0))) else (some (t159,bt163.1,false))) else (some (t159,bt163.1,false))) else (some (t159,bt163.1,false))) else (some (t159,bt163.1,false))))=some (r1,r2,r3):=H
 have A4:=Aside0.mk A40
 clear A40
 replace H:=Option.bind_eq_some_iff.mp H
 obtain ⟨⟨t163,t164⟩,A50,H⟩:=H
 replace H:(if t156=true then (if t158=true then (if t160=true then (if t164=true then (some (t159,t163,decide ((t163.length:Int) > 0))) else (some (t159,t163,false))) else (some (t159,t163,false))) else (some (t159,t163,false))) else (some (t159,t163,false)))=some (r1,r2,r3):=H
 have A5:=Aside0.mk A50
 clear A50
 by_cases c6:t156=true
 ·subst c6
  have H1:(if t158=true then (if t160=true then (if t164=true then (some (t159,t163,decide ((t163.length:Int) > 0))) else (some (t159,t163,false))) else (some (t159,t163,false))) else (some (t159,t163,false)))=some (r1,r2,r3):=by rw [if_pos rfl] at H;exact H
  clear H
  have H:=H1
  clear H1
  by_cases c7:t158=true
  ·subst c7
   have H1:(if t160=true then (if t164=true then (some (t159,t163,decide ((t163.length:Int) > 0))) else (some (t159,t163,false))) else (some (t159,t163,false)))=some (r1,r2,r3):=by rw [if_pos rfl] at H;exact H
   clear H
   have H:=H1
   clear H1
   by_cases c8:t160=true
   ·subst c8
    have H1:(if t164=true then (some (t159,t163,decide ((t163.length:Int) > 0))) else (some (t159,t163,false)))=some (r1,r2,r3):=by rw [if_pos rfl] at H;exact H
    clear H
    have H:=H1
    clear H1
    by_cases c9:t164=true
    ·subst c9
     have H1:(some (t159,t163,decide ((t163.length:Int) > 0)))=some (r1,r2,r3):=by rw [if_pos rfl] at H;exact H
     clear H
     have H:=H1
     clear H1
     simp only [Option.some.injEq,Prod.mk.injEq] at H
     obtain ⟨rfl,rfl,rfl⟩:=H
     go_enter Try.func26,Try.ntmps26
     go_wp2_with (first|((with_reducible refine gate_dst (N:=2) rfl ?_);(try (refine gate_guard (by rfl) ?_;dsimp only));refine box_event ?hg (N:=2) ?hd (cs:=#[.slice none 0 0,.slice none 0 0]) (t:=43) ?hr ?_;(case hd=>rfl);(case hg=>rfl);(case hr=>first|(go_simp;done)|(go_simp;rfl));intro gb153 hg w10 hbox hb;have n0_:=Aside0.mk (yP (by repeat (first|(with_reducible first|exact HB.out|apply yA|apply yB|apply yC)|exact HB.out)) hb);have n1_:=Aside0.mk (hbox);have n2_:=Aside0.mk ((by rw [hg];exact (yQ (by repeat (first|(with_reducible first|exact HB.out|apply yA|apply yB|apply yC)|exact HB.out))):w.heap.size≤gb153));have n3_:=Aside0.mk ((by rw [hg];exact (yQ (by repeat (first|(with_reducible first|exact HB.out|apply yA|apply yB|apply yC)|exact HB.out))):w.heap.size≤gb153));clear HB;have HB:=n0_;have BK153:=n1_;have GW153:=n2_;have GE153:=n3_;clear n0_ n1_ n2_ n3_;clear hb hbox hg)|((with_reducible refine gate_callee (f:=52) rfl ?_);refine goesL_ (some 15) rfl rfl Try.func52 (by kernel_rfl) rfl #[.string a0,.string (⟨#[40]⟩:ByteArray)] rfl (by (try simp only [List.map_toArray,List.map_cons,List.map_nil]);first|done|rfl|(simp only [List.length_drop,List.length_take];rfl)) ?_;(with_reducible refine (strings_Cut.calls a0 (⟨#[40]⟩:ByteArray) t154 t155 true _ A2.out).mono ?_);rintro e w' ⟨rfl,⟨nd,rfl⟩⟩;refine ⟨_,rfl,?_⟩;(try (rw [drewN_self w10];generalize hq_:World.drewN w10 _=w10;have n0_:Aside0 (w10.heap[gb153]?=some (.cells #[.slice none 0 0,.slice none 0 0] 43 (0,0))):=⟨by rw [← hq_];exact (by (with_reducible repeat (first|refine yE ?_ _|refine yF ?_|refine yG ?_ _));exact BK153.out)⟩;have n1_:Aside0 (Below w.heap.size w w10):=⟨by rw [← hq_];exact (by repeat (first|(with_reducible first|exact HB.out|apply yA|apply yB|apply yC|refine yD ?_ GE153.out)|exact HB.out))⟩;clear BK153 HB hq_;have BK153:=n0_;have HB:=n1_;clear n0_ n1_)))|((with_reducible refine gate_callee (f:=53) rfl ?_);refine goesL_ (some 21) rfl rfl Try.func53 (by kernel_rfl) rfl #[.string t155,.string (⟨#[41]⟩:ByteArray)] rfl (by (try simp only [List.map_toArray,List.map_cons,List.map_nil]);first|done|rfl|(simp only [List.length_drop,List.length_take];rfl)) ?_;(with_reducible refine (strings_CutSuffix.calls t155 (⟨#[41]⟩:ByteArray) t157 true _ A3.out).mono ?_);rintro e w' ⟨rfl,⟨nd,rfl⟩⟩;refine ⟨_,rfl,?_⟩;(try (rw [drewN_self w10];generalize hq_:World.drewN w10 _=w10;have n0_:Aside0 (w10.heap[gb153]?=some (.cells #[.slice none 0 0,.slice none 0 0] 43 (0,0))):=⟨by rw [← hq_];exact (by (with_reducible repeat (first|refine yE ?_ _|refine yF ?_|refine yG ?_ _));exact BK153.out)⟩;have n1_:Aside0 (Below w.heap.size w w10):=⟨by rw [← hq_];exact (by repeat (first|(with_reducible first|exact HB.out|apply yA|apply yB|apply yC|refine yD ?_ GE153.out)|exact HB.out))⟩;clear BK153 HB hq_;have BK153:=n0_;have HB:=n1_;clear n0_ n1_)))|((with_reducible refine gate_callee (f:=54) rfl ?_);refine goesL_ (some 26) rfl rfl Try.func54 (by kernel_rfl) rfl #[.string t154] rfl (by (try simp only [List.map_toArray,List.map_cons,List.map_nil]);first|done|rfl|(simp only [List.length_drop,List.length_take];rfl)) ?_;(with_reducible refine (impl_signs.calls k t154 t159 true _ A4.out).mono ?_);rintro e w11 ⟨v161,rfl,ho0,hb⟩;refine ⟨_,rfl,?_⟩;have n0_:=Aside0.mk (Kd.R_lower ho0 (yQ (by repeat (first|(with_reducible first|exact HB.out|apply yA|apply yB|apply yC|refine yD ?_ GE153.out)|exact HB.out))));have n1_:=Aside0.mk (blk_below (g:=gb153) (o:=.cells #[.slice none 0 0,.slice none 0 0] 43 (0,0)) (by (with_reducible repeat (first|refine yE ?_ _|refine yF ?_|refine yG ?_ _));exact BK153.out) hb);have n2_:=Aside0.mk (yP (by repeat (first|(with_reducible first|exact HB.out|apply yA|apply yB|apply yC|refine yD ?_ GE153.out)|exact HB.out)) hb);clear BK153;clear HB;have HO162:=n0_;have BK153:=n1_;have HB:=n2_;clear n0_ n1_ n2_;(try clear hb);(try clear hb2);(try clear hk);(try clear hi);(try clear ho0))|((with_reducible refine gate_callee (f:=54) rfl ?_);refine goesL_ (some 31) rfl rfl Try.func54 (by kernel_rfl) rfl #[.string t157] rfl (by (try simp only [List.map_toArray,List.map_cons,List.map_nil]);first|done|rfl|(simp only [List.length_drop,List.length_take];rfl)) ?_;(with_reducible refine (impl_signs.calls k t157 t163 true _ A5.out).mono ?_);rintro e w12 ⟨v165,rfl,ho0,hb⟩;refine ⟨_,rfl,?_⟩;have n0_:=Aside0.mk (Kd.R_elder' (by (with_reducible repeat (first|apply yH|apply yI|apply yJ));exact HO162.out) (Kd.R_base ho0) hb);have n1_:=Aside0.mk (Kd.R_lower (Kd.R_new' ho0 (Kd.R_lt (by (with_reducible repeat (first|apply yH|apply yI|apply yJ));exact HO162.out))) (yQ (by repeat (first|(with_reducible first|exact HB.out|apply yA|apply yB|apply yC|refine yD ?_ GE153.out)|exact HB.out))));have n2_:=Aside0.mk (blk_below (g:=gb153) (o:=.cells #[.slice none 0 0,.slice none 0 0] 43 (0,0)) (by (with_reducible repeat (first|refine yE ?_ _|refine yF ?_|refine yG ?_ _));exact BK153.out) hb);have n3_:=Aside0.mk (yP (by repeat (first|(with_reducible first|exact HB.out|apply yA|apply yB|apply yC|refine yD ?_ GE153.out)|exact HB.out)) hb);clear HO162;clear BK153;clear HB;have HO162:=n0_;have HO166:=n1_;have BK153:=n2_;have HB:=n3_;clear n0_ n1_ n2_ n3_;(try clear hb);(try clear hb2);(try clear hk);(try clear hi);(try clear ho0);obtain ⟨Ao13,co13,eo13⟩:=Kd.R_slice HO166.out;subst eo13;obtain ⟨Ao14,co14,eo14⟩:=Kd.R_slice HO162.out;subst eo14;have hcz15_0:w12.cell? ⟨gb153,0,none⟩=some (.slice none 0 0):=(blk_cell BK153.out 0).trans rfl;have hcz15_1:w12.cell? ⟨gb153,1,none⟩=some (.slice none 0 0):=(blk_cell BK153.out 1).trans rfl;have hfz15_0:=blk_frozen BK153.out 0;have hfz15_1:=blk_frozen BK153.out 1))
     refine bodyPost_ret (results_ct rfl _ _ gb153 43 #[.slice Ao14 t159.length co14,.slice Ao13 t163.length co13] (0,0) _ rfl (by (with_reducible repeat (first|refine yE ?_ _|refine yF ?_|refine yG ?_ _));refine blk_put (cs:=#[.slice Ao14 t159.length co14,.slice none 0 0]) ?_ 1 _ rfl;(with_reducible repeat (first|refine yE ?_ _|refine yF ?_|refine yG ?_ _));refine blk_put (cs:=#[.slice none 0 0,.slice none 0 0]) ?_ 0 _ rfl;(with_reducible repeat (first|refine yE ?_ _|refine yF ?_|refine yG ?_ _));exact BK153.out) Try.underlying43 rfl (by kernel_rfl)) rfl ?_
     exact ⟨_,_,by first|rfl|(simp [errW_none,errW_some]<;>rfl)|(simp [*,errW_none,errW_some]<;>rfl)|(simp [errW_none,errW_some];exact ⟨rfl,rfl⟩),by (with_reducible repeat (first|apply yH|apply yI|apply yJ));exact Kd.R_mono (Kd.R_far (p:=⟨gb153,1,none⟩) (Kd.R_far (p:=⟨gb153,0,none⟩) (Kd.R_types HO162.out BK153.out (by decide)) (fun _ hk=>hk.2) (.slice Ao14 t159.length co14)) (fun _ hk=>hk.2) (.slice Ao13 t163.length co13)) (fun _ hk=>hk.1.2),by (with_reducible repeat (first|apply yH|apply yI|apply yJ));exact Kd.R_mono (Kd.R_far (p:=⟨gb153,1,none⟩) (Kd.R_far (p:=⟨gb153,0,none⟩) (Kd.R_types HO166.out BK153.out (by decide)) (fun _ hk=>hk.2) (.slice Ao14 t159.length co14)) (fun _ hk=>hk.2) (.slice Ao13 t163.length co13)) (fun _ hk=>hk.1.2),by repeat (first|(with_reducible first|exact HB.out|apply yA|apply yB|apply yC|refine yD ?_ GE153.out)|exact HB.out)⟩
    ·replace c9:=Bool.eq_false_iff.mpr c9
     subst c9
     have H1:(some (t159,t163,false))=some (r1,r2,r3):=by rw [if_neg (show ¬ (false=true) by decide)] at H;exact H
     clear H
     have H:=H1
     clear H1
     simp only [Option.some.injEq,Prod.mk.injEq] at H
     obtain ⟨rfl,rfl,rfl⟩:=H
     go_enter Try.func26,Try.ntmps26
     go_wp2_with (first|((with_reducible refine gate_dst (N:=2) rfl ?_);(try (refine gate_guard (by rfl) ?_;dsimp only));refine box_event ?hg (N:=2) ?hd (cs:=#[.slice none 0 0,.slice none 0 0]) (t:=43) ?hr ?_;(case hd=>rfl);(case hg=>rfl);(case hr=>first|(go_simp;done)|(go_simp;rfl));intro gb153 hg w16 hbox hb;have n0_:=Aside0.mk (yP (by repeat (first|(with_reducible first|exact HB.out|apply yA|apply yB|apply yC)|exact HB.out)) hb);have n1_:=Aside0.mk (hbox);have n2_:=Aside0.mk ((by rw [hg];exact (yQ (by repeat (first|(with_reducible first|exact HB.out|apply yA|apply yB|apply yC)|exact HB.out))):w.heap.size≤gb153));have n3_:=Aside0.mk ((by rw [hg];exact (yQ (by repeat (first|(with_reducible first|exact HB.out|apply yA|apply yB|apply yC)|exact HB.out))):w.heap.size≤gb153));clear HB;have HB:=n0_;have BK153:=n1_;have GW153:=n2_;have GE153:=n3_;clear n0_ n1_ n2_ n3_;clear hb hbox hg)|((with_reducible refine gate_callee (f:=52) rfl ?_);refine goesL_ (some 15) rfl rfl Try.func52 (by kernel_rfl) rfl #[.string a0,.string (⟨#[40]⟩:ByteArray)] rfl (by (try simp only [List.map_toArray,List.map_cons,List.map_nil]);first|done|rfl|(simp only [List.length_drop,List.length_take];rfl)) ?_;(with_reducible refine (strings_Cut.calls a0 (⟨#[40]⟩:ByteArray) t154 t155 true _ A2.out).mono ?_);rintro e w' ⟨rfl,⟨nd,rfl⟩⟩;refine ⟨_,rfl,?_⟩;(try (rw [drewN_self w16];generalize hq_:World.drewN w16 _=w16;have n0_:Aside0 (w16.heap[gb153]?=some (.cells #[.slice none 0 0,.slice none 0 0] 43 (0,0))):=⟨by rw [← hq_];exact (by (with_reducible repeat (first|refine yE ?_ _|refine yF ?_|refine yG ?_ _));exact BK153.out)⟩;have n1_:Aside0 (Below w.heap.size w w16):=⟨by rw [← hq_];exact (by repeat (first|(with_reducible first|exact HB.out|apply yA|apply yB|apply yC|refine yD ?_ GE153.out)|exact HB.out))⟩;clear BK153 HB hq_;have BK153:=n0_;have HB:=n1_;clear n0_ n1_)))|((with_reducible refine gate_callee (f:=53) rfl ?_);refine goesL_ (some 21) rfl rfl Try.func53 (by kernel_rfl) rfl #[.string t155,.string (⟨#[41]⟩:ByteArray)] rfl (by (try simp only [List.map_toArray,List.map_cons,List.map_nil]);first|done|rfl|(simp only [List.length_drop,List.length_take];rfl)) ?_;(with_reducible refine (strings_CutSuffix.calls t155 (⟨#[41]⟩:ByteArray) t157 true _ A3.out).mono ?_);rintro e w' ⟨rfl,⟨nd,rfl⟩⟩;refine ⟨_,rfl,?_⟩;(try (rw [drewN_self w16];generalize hq_:World.drewN w16 _=w16;have n0_:Aside0 (w16.heap[gb153]?=some (.cells #[.slice none 0 0,.slice none 0 0] 43 (0,0))):=⟨by rw [← hq_];exact (by (with_reducible repeat (first|refine yE ?_ _|refine yF ?_|refine yG ?_ _));exact BK153.out)⟩;have n1_:Aside0 (Below w.heap.size w w16):=⟨by rw [← hq_];exact (by repeat (first|(with_reducible first|exact HB.out|apply yA|apply yB|apply yC|refine yD ?_ GE153.out)|exact HB.out))⟩;clear BK153 HB hq_;have BK153:=n0_;have HB:=n1_;clear n0_ n1_)))|((with_reducible refine gate_callee (f:=54) rfl ?_);refine goesL_ (some 26) rfl rfl Try.func54 (by kernel_rfl) rfl #[.string t154] rfl (by (try simp only [List.map_toArray,List.map_cons,List.map_nil]);first|done|rfl|(simp only [List.length_drop,List.length_take];rfl)) ?_;(with_reducible refine (impl_signs.calls k t154 t159 true _ A4.out).mono ?_);rintro e w17 ⟨v161,rfl,ho0,hb⟩;refine ⟨_,rfl,?_⟩;have n0_:=Aside0.mk (Kd.R_lower ho0 (yQ (by repeat (first|(with_reducible first|exact HB.out|apply yA|apply yB|apply yC|refine yD ?_ GE153.out)|exact HB.out))));have n1_:=Aside0.mk (blk_below (g:=gb153) (o:=.cells #[.slice none 0 0,.slice none 0 0] 43 (0,0)) (by (with_reducible repeat (first|refine yE ?_ _|refine yF ?_|refine yG ?_ _));exact BK153.out) hb);have n2_:=Aside0.mk (yP (by repeat (first|(with_reducible first|exact HB.out|apply yA|apply yB|apply yC|refine yD ?_ GE153.out)|exact HB.out)) hb);clear BK153;clear HB;have HO162:=n0_;have BK153:=n1_;have HB:=n2_;clear n0_ n1_ n2_;(try clear hb);(try clear hb2);(try clear hk);(try clear hi);(try clear ho0))|((with_reducible refine gate_callee (f:=54) rfl ?_);refine goesL_ (some 31) rfl rfl Try.func54 (by kernel_rfl) rfl #[.string t157] rfl (by (try simp only [List.map_toArray,List.map_cons,List.map_nil]);first|done|rfl|(simp only [List.length_drop,List.length_take];rfl)) ?_;(with_reducible refine (impl_signs.calls k t157 t163 false _ A5.out).mono ?_);rintro e w18 ⟨v165,rfl,ho0,hb⟩;refine ⟨_,rfl,?_⟩;have n0_:=Aside0.mk (Kd.R_elder' (by (with_reducible repeat (first|apply yH|apply yI|apply yJ));exact HO162.out) (Kd.R_base ho0) hb);have n1_:=Aside0.mk (Kd.R_lower (Kd.R_new' ho0 (Kd.R_lt (by (with_reducible repeat (first|apply yH|apply yI|apply yJ));exact HO162.out))) (yQ (by repeat (first|(with_reducible first|exact HB.out|apply yA|apply yB|apply yC|refine yD ?_ GE153.out)|exact HB.out))));have n2_:=Aside0.mk (blk_below (g:=gb153) (o:=.cells #[.slice none 0 0,.slice none 0 0] 43 (0,0)) (by (with_reducible repeat (first|refine yE ?_ _|refine yF ?_|refine yG ?_ _));exact BK153.out) hb);have n3_:=Aside0.mk (yP (by repeat (first|(with_reducible first|exact HB.out|apply yA|apply yB|apply yC|refine yD ?_ GE153.out)|exact HB.out)) hb);clear HO162;clear BK153;clear HB;have HO162:=n0_;have HO166:=n1_;have BK153:=n2_;have HB:=n3_;clear n0_ n1_ n2_ n3_;(try clear hb);(try clear hb2);(try clear hk);(try clear hi);(try clear ho0);obtain ⟨Ao19,co19,eo19⟩:=Kd.R_slice HO166.out;subst eo19;obtain ⟨Ao20,co20,eo20⟩:=Kd.R_slice HO162.out;subst eo20;have hcz21_0:w18.cell? ⟨gb153,0,none⟩=some (.slice none 0 0):=(blk_cell BK153.out 0).trans rfl;have hcz21_1:w18.cell? ⟨gb153,1,none⟩=some (.slice none 0 0):=(blk_cell BK153.out 1).trans rfl;have hfz21_0:=blk_frozen BK153.out 0;have hfz21_1:=blk_frozen BK153.out 1))
     refine bodyPost_ret (results_ct rfl _ _ gb153 43 #[.slice Ao20 t159.length co20,.slice Ao19 t163.length co19] (0,0) _ rfl (by (with_reducible repeat (first|refine yE ?_ _|refine yF ?_|refine yG ?_ _));refine blk_put (cs:=#[.slice Ao20 t159.length co20,.slice none 0 0]) ?_ 1 _ rfl;(with_reducible repeat (first|refine yE ?_ _|refine yF ?_|refine yG ?_ _));refine blk_put (cs:=#[.slice none 0 0,.slice none 0 0]) ?_ 0 _ rfl;(with_reducible repeat (first|refine yE ?_ _|refine yF ?_|refine yG ?_ _));exact BK153.out) Try.underlying43 rfl (by kernel_rfl)) rfl ?_
     exact ⟨_,_,by first|rfl|(simp [errW_none,errW_some]<;>rfl)|(simp [*,errW_none,errW_some]<;>rfl)|(simp [errW_none,errW_some];exact ⟨rfl,rfl⟩),by (with_reducible repeat (first|apply yH|apply yI|apply yJ));exact Kd.R_mono (Kd.R_far (p:=⟨gb153,1,none⟩) (Kd.R_far (p:=⟨gb153,0,none⟩) (Kd.R_types HO162.out BK153.out (by decide)) (fun _ hk=>hk.2) (.slice Ao20 t159.length co20)) (fun _ hk=>hk.2) (.slice Ao19 t163.length co19)) (fun _ hk=>hk.1.2),by (with_reducible repeat (first|apply yH|apply yI|apply yJ));exact Kd.R_mono (Kd.R_far (p:=⟨gb153,1,none⟩) (Kd.R_far (p:=⟨gb153,0,none⟩) (Kd.R_types HO166.out BK153.out (by decide)) (fun _ hk=>hk.2) (.slice Ao20 t159.length co20)) (fun _ hk=>hk.2) (.slice Ao19 t163.length co19)) (fun _ hk=>hk.1.2),by repeat (first|(with_reducible first|exact HB.out|apply yA|apply yB|apply yC|refine yD ?_ GE153.out)|exact HB.out)⟩
   ·replace c8:=Bool.eq_false_iff.mpr c8
    subst c8
    have H1:(some (t159,t163,false))=some (r1,r2,r3):=by rw [if_neg (show ¬ (false=true) by decide)] at H;exact H
    clear H
    have H:=H1
    clear H1
    simp only [Option.some.injEq,Prod.mk.injEq] at H
    obtain ⟨rfl,rfl,rfl⟩:=H
    go_enter Try.func26,Try.ntmps26
    go_wp2_with (first|((with_reducible refine gate_dst (N:=2) rfl ?_);(try (refine gate_guard (by rfl) ?_;dsimp only));refine box_event ?hg (N:=2) ?hd (cs:=#[.slice none 0 0,.slice none 0 0]) (t:=43) ?hr ?_;(case hd=>rfl);(case hg=>rfl);(case hr=>first|(go_simp;done)|(go_simp;rfl));intro gb153 hg w22 hbox hb;have n0_:=Aside0.mk (yP (by repeat (first|(with_reducible first|exact HB.out|apply yA|apply yB|apply yC)|exact HB.out)) hb);have n1_:=Aside0.mk (hbox);have n2_:=Aside0.mk ((by rw [hg];exact (yQ (by repeat (first|(with_reducible first|exact HB.out|apply yA|apply yB|apply yC)|exact HB.out))):w.heap.size≤gb153));have n3_:=Aside0.mk ((by rw [hg];exact (yQ (by repeat (first|(with_reducible first|exact HB.out|apply yA|apply yB|apply yC)|exact HB.out))):w.heap.size≤gb153));clear HB;have HB:=n0_;have BK153:=n1_;have GW153:=n2_;have GE153:=n3_;clear n0_ n1_ n2_ n3_;clear hb hbox hg)|((with_reducible refine gate_callee (f:=52) rfl ?_);refine goesL_ (some 15) rfl rfl Try.func52 (by kernel_rfl) rfl #[.string a0,.string (⟨#[40]⟩:ByteArray)] rfl (by (try simp only [List.map_toArray,List.map_cons,List.map_nil]);first|done|rfl|(simp only [List.length_drop,List.length_take];rfl)) ?_;(with_reducible refine (strings_Cut.calls a0 (⟨#[40]⟩:ByteArray) t154 t155 true _ A2.out).mono ?_);rintro e w' ⟨rfl,⟨nd,rfl⟩⟩;refine ⟨_,rfl,?_⟩;(try (rw [drewN_self w22];generalize hq_:World.drewN w22 _=w22;have n0_:Aside0 (w22.heap[gb153]?=some (.cells #[.slice none 0 0,.slice none 0 0] 43 (0,0))):=⟨by rw [← hq_];exact (by (with_reducible repeat (first|refine yE ?_ _|refine yF ?_|refine yG ?_ _));exact BK153.out)⟩;have n1_:Aside0 (Below w.heap.size w w22):=⟨by rw [← hq_];exact (by repeat (first|(with_reducible first|exact HB.out|apply yA|apply yB|apply yC|refine yD ?_ GE153.out)|exact HB.out))⟩;clear BK153 HB hq_;have BK153:=n0_;have HB:=n1_;clear n0_ n1_)))|((with_reducible refine gate_callee (f:=53) rfl ?_);refine goesL_ (some 21) rfl rfl Try.func53 (by kernel_rfl) rfl #[.string t155,.string (⟨#[41]⟩:ByteArray)] rfl (by (try simp only [List.map_toArray,List.map_cons,List.map_nil]);first|done|rfl|(simp only [List.length_drop,List.length_take];rfl)) ?_;(with_reducible refine (strings_CutSuffix.calls t155 (⟨#[41]⟩:ByteArray) t157 true _ A3.out).mono ?_);rintro e w' ⟨rfl,⟨nd,rfl⟩⟩;refine ⟨_,rfl,?_⟩;(try (rw [drewN_self w22];generalize hq_:World.drewN w22 _=w22;have n0_:Aside0 (w22.heap[gb153]?=some (.cells #[.slice none 0 0,.slice none 0 0] 43 (0,0))):=⟨by rw [← hq_];exact (by (with_reducible repeat (first|refine yE ?_ _|refine yF ?_|refine yG ?_ _));exact BK153.out)⟩;have n1_:Aside0 (Below w.heap.size w w22):=⟨by rw [← hq_];exact (by repeat (first|(with_reducible first|exact HB.out|apply yA|apply yB|apply yC|refine yD ?_ GE153.out)|exact HB.out))⟩;clear BK153 HB hq_;have BK153:=n0_;have HB:=n1_;clear n0_ n1_)))|((with_reducible refine gate_callee (f:=54) rfl ?_);refine goesL_ (some 26) rfl rfl Try.func54 (by kernel_rfl) rfl #[.string t154] rfl (by (try simp only [List.map_toArray,List.map_cons,List.map_nil]);first|done|rfl|(simp only [List.length_drop,List.length_take];rfl)) ?_;(with_reducible refine (impl_signs.calls k t154 t159 false _ A4.out).mono ?_);rintro e w23 ⟨v161,rfl,ho0,hb⟩;refine ⟨_,rfl,?_⟩;have n0_:=Aside0.mk (Kd.R_lower ho0 (yQ (by repeat (first|(with_reducible first|exact HB.out|apply yA|apply yB|apply yC|refine yD ?_ GE153.out)|exact HB.out))));have n1_:=Aside0.mk (blk_below (g:=gb153) (o:=.cells #[.slice none 0 0,.slice none 0 0] 43 (0,0)) (by (with_reducible repeat (first|refine yE ?_ _|refine yF ?_|refine yG ?_ _));exact BK153.out) hb);have n2_:=Aside0.mk (yP (by repeat (first|(with_reducible first|exact HB.out|apply yA|apply yB|apply yC|refine yD ?_ GE153.out)|exact HB.out)) hb);clear BK153;clear HB;have HO162:=n0_;have BK153:=n1_;have HB:=n2_;clear n0_ n1_ n2_;(try clear hb);(try clear hb2);(try clear hk);(try clear hi);(try clear ho0))|((with_reducible refine gate_callee (f:=54) rfl ?_);refine goesL_ (some 31) rfl rfl Try.func54 (by kernel_rfl) rfl #[.string t157] rfl (by (try simp only [List.map_toArray,List.map_cons,List.map_nil]);first|done|rfl|(simp only [List.length_drop,List.length_take];rfl)) ?_;(with_reducible refine (impl_signs.calls k t157 t163 t164 _ A5.out).mono ?_);rintro e w24 ⟨v165,rfl,ho0,hb⟩;refine ⟨_,rfl,?_⟩;have n0_:=Aside0.mk (Kd.R_elder' (by (with_reducible repeat (first|apply yH|apply yI|apply yJ));exact HO162.out) (Kd.R_base ho0) hb);have n1_:=Aside0.mk (Kd.R_lower (Kd.R_new' ho0 (Kd.R_lt (by (with_reducible repeat (first|apply yH|apply yI|apply yJ));exact HO162.out))) (yQ (by repeat (first|(with_reducible first|exact HB.out|apply yA|apply yB|apply yC|refine yD ?_ GE153.out)|exact HB.out))));have n2_:=Aside0.mk (blk_below (g:=gb153) (o:=.cells #[.slice none 0 0,.slice none 0 0] 43 (0,0)) (by (with_reducible repeat (first|refine yE ?_ _|refine yF ?_|refine yG ?_ _));exact BK153.out) hb);have n3_:=Aside0.mk (yP (by repeat (first|(with_reducible first|exact HB.out|apply yA|apply yB|apply yC|refine yD ?_ GE153.out)|exact HB.out)) hb);clear HO162;clear BK153;clear HB;have HO162:=n0_;have HO166:=n1_;have BK153:=n2_;have HB:=n3_;clear n0_ n1_ n2_ n3_;(try clear hb);(try clear hb2);(try clear hk);(try clear hi);(try clear ho0);obtain ⟨Ao25,co25,eo25⟩:=Kd.R_slice HO166.out;subst eo25;obtain ⟨Ao26,co26,eo26⟩:=Kd.R_slice HO162.out;subst eo26;have hcz27_0:w24.cell? ⟨gb153,0,none⟩=some (.slice none 0 0):=(blk_cell BK153.out 0).trans rfl;have hcz27_1:w24.cell? ⟨gb153,1,none⟩=some (.slice none 0 0):=(blk_cell BK153.out 1).trans rfl;have hfz27_0:=blk_frozen BK153.out 0;have hfz27_1:=blk_frozen BK153.out 1))
    refine bodyPost_ret (results_ct rfl _ _ gb153 43 #[.slice Ao26 t159.length co26,.slice Ao25 t163.length co25] (0,0) _ rfl (by (with_reducible repeat (first|refine yE ?_ _|refine yF ?_|refine yG ?_ _));refine blk_put (cs:=#[.slice Ao26 t159.length co26,.slice none 0 0]) ?_ 1 _ rfl;(with_reducible repeat (first|refine yE ?_ _|refine yF ?_|refine yG ?_ _));refine blk_put (cs:=#[.slice none 0 0,.slice none 0 0]) ?_ 0 _ rfl;(with_reducible repeat (first|refine yE ?_ _|refine yF ?_|refine yG ?_ _));exact BK153.out) Try.underlying43 rfl (by kernel_rfl)) rfl ?_
    exact ⟨_,_,by first|rfl|(simp [errW_none,errW_some]<;>rfl)|(simp [*,errW_none,errW_some]<;>rfl)|(simp [errW_none,errW_some];exact ⟨rfl,rfl⟩),by (with_reducible repeat (first|apply yH|apply yI|apply yJ));exact Kd.R_mono (Kd.R_far (p:=⟨gb153,1,none⟩) (Kd.R_far (p:=⟨gb153,0,none⟩) (Kd.R_types HO162.out BK153.out (by decide)) (fun _ hk=>hk.2) (.slice Ao26 t159.length co26)) (fun _ hk=>hk.2) (.slice Ao25 t163.length co25)) (fun _ hk=>hk.1.2),by (with_reducible repeat (first|apply yH|apply yI|apply yJ));exact Kd.R_mono (Kd.R_far (p:=⟨gb153,1,none⟩) (Kd.R_far (p:=⟨gb153,0,none⟩) (Kd.R_types HO166.out BK153.out (by decide)) (fun _ hk=>hk.2) (.slice Ao26 t159.length co26)) (fun _ hk=>hk.2) (.slice Ao25 t163.length co25)) (fun _ hk=>hk.1.2),by repeat (first|(with_reducible first|exact HB.out|apply yA|apply yB|apply yC|refine yD ?_ GE153.out)|exact HB.out)⟩
  ·replace c7:=Bool.eq_false_iff.mpr c7
   subst c7
   have H1:(some (t159,t163,false))=some (r1,r2,r3):=by rw [if_neg (show ¬ (false=true) by decide)] at H;exact H
   clear H
   have H:=H1
   clear H1
   simp only [Option.some.injEq,Prod.mk.injEq] at H
   obtain ⟨rfl,rfl,rfl⟩:=H
   go_enter Try.func26,Try.ntmps26
   go_wp2_with (first|((with_reducible refine gate_dst (N:=2) rfl ?_);(try (refine gate_guard (by rfl) ?_;dsimp only));refine box_event ?hg (N:=2) ?hd (cs:=#[.slice none 0 0,.slice none 0 0]) (t:=43) ?hr ?_;(case hd=>rfl);(case hg=>rfl);(case hr=>first|(go_simp;done)|(go_simp;rfl));intro gb153 hg w28 hbox hb;have n0_:=Aside0.mk (yP (by repeat (first|(with_reducible first|exact HB.out|apply yA|apply yB|apply yC)|exact HB.out)) hb);have n1_:=Aside0.mk (hbox);have n2_:=Aside0.mk ((by rw [hg];exact (yQ (by repeat (first|(with_reducible first|exact HB.out|apply yA|apply yB|apply yC)|exact HB.out))):w.heap.size≤gb153));have n3_:=Aside0.mk ((by rw [hg];exact (yQ (by repeat (first|(with_reducible first|exact HB.out|apply yA|apply yB|apply yC)|exact HB.out))):w.heap.size≤gb153));clear HB;have HB:=n0_;have BK153:=n1_;have GW153:=n2_;have GE153:=n3_;clear n0_ n1_ n2_ n3_;clear hb hbox hg)|((with_reducible refine gate_callee (f:=52) rfl ?_);refine goesL_ (some 15) rfl rfl Try.func52 (by kernel_rfl) rfl #[.string a0,.string (⟨#[40]⟩:ByteArray)] rfl (by (try simp only [List.map_toArray,List.map_cons,List.map_nil]);first|done|rfl|(simp only [List.length_drop,List.length_take];rfl)) ?_;(with_reducible refine (strings_Cut.calls a0 (⟨#[40]⟩:ByteArray) t154 t155 true _ A2.out).mono ?_);rintro e w' ⟨rfl,⟨nd,rfl⟩⟩;refine ⟨_,rfl,?_⟩;(try (rw [drewN_self w28];generalize hq_:World.drewN w28 _=w28;have n0_:Aside0 (w28.heap[gb153]?=some (.cells #[.slice none 0 0,.slice none 0 0] 43 (0,0))):=⟨by rw [← hq_];exact (by (with_reducible repeat (first|refine yE ?_ _|refine yF ?_|refine yG ?_ _));exact BK153.out)⟩;have n1_:Aside0 (Below w.heap.size w w28):=⟨by rw [← hq_];exact (by repeat (first|(with_reducible first|exact HB.out|apply yA|apply yB|apply yC|refine yD ?_ GE153.out)|exact HB.out))⟩;clear BK153 HB hq_;have BK153:=n0_;have HB:=n1_;clear n0_ n1_)))|((with_reducible refine gate_callee (f:=53) rfl ?_);refine goesL_ (some 21) rfl rfl Try.func53 (by kernel_rfl) rfl #[.string t155,.string (⟨#[41]⟩:ByteArray)] rfl (by (try simp only [List.map_toArray,List.map_cons,List.map_nil]);first|done|rfl|(simp only [List.length_drop,List.length_take];rfl)) ?_;(with_reducible refine (strings_CutSuffix.calls t155 (⟨#[41]⟩:ByteArray) t157 false _ A3.out).mono ?_);rintro e w' ⟨rfl,⟨nd,rfl⟩⟩;refine ⟨_,rfl,?_⟩;(try (rw [drewN_self w28];generalize hq_:World.drewN w28 _=w28;have n0_:Aside0 (w28.heap[gb153]?=some (.cells #[.slice none 0 0,.slice none 0 0] 43 (0,0))):=⟨by rw [← hq_];exact (by (with_reducible repeat (first|refine yE ?_ _|refine yF ?_|refine yG ?_ _));exact BK153.out)⟩;have n1_:Aside0 (Below w.heap.size w w28):=⟨by rw [← hq_];exact (by repeat (first|(with_reducible first|exact HB.out|apply yA|apply yB|apply yC|refine yD ?_ GE153.out)|exact HB.out))⟩;clear BK153 HB hq_;have BK153:=n0_;have HB:=n1_;clear n0_ n1_)))|((with_reducible refine gate_callee (f:=54) rfl ?_);refine goesL_ (some 26) rfl rfl Try.func54 (by kernel_rfl) rfl #[.string t154] rfl (by (try simp only [List.map_toArray,List.map_cons,List.map_nil]);first|done|rfl|(simp only [List.length_drop,List.length_take];rfl)) ?_;(with_reducible refine (impl_signs.calls k t154 t159 t160 _ A4.out).mono ?_);rintro e w29 ⟨v161,rfl,ho0,hb⟩;refine ⟨_,rfl,?_⟩;have n0_:=Aside0.mk (Kd.R_lower ho0 (yQ (by repeat (first|(with_reducible first|exact HB.out|apply yA|apply yB|apply yC|refine yD ?_ GE153.out)|exact HB.out))));have n1_:=Aside0.mk (blk_below (g:=gb153) (o:=.cells #[.slice none 0 0,.slice none 0 0] 43 (0,0)) (by (with_reducible repeat (first|refine yE ?_ _|refine yF ?_|refine yG ?_ _));exact BK153.out) hb);have n2_:=Aside0.mk (yP (by repeat (first|(with_reducible first|exact HB.out|apply yA|apply yB|apply yC|refine yD ?_ GE153.out)|exact HB.out)) hb);clear BK153;clear HB;have HO162:=n0_;have BK153:=n1_;have HB:=n2_;clear n0_ n1_ n2_;(try clear hb);(try clear hb2);(try clear hk);(try clear hi);(try clear ho0))|((with_reducible refine gate_callee (f:=54) rfl ?_);refine goesL_ (some 31) rfl rfl Try.func54 (by kernel_rfl) rfl #[.string t157] rfl (by (try simp only [List.map_toArray,List.map_cons,List.map_nil]);first|done|rfl|(simp only [List.length_drop,List.length_take];rfl)) ?_;(with_reducible refine (impl_signs.calls k t157 t163 t164 _ A5.out).mono ?_);rintro e w30 ⟨v165,rfl,ho0,hb⟩;refine ⟨_,rfl,?_⟩;have n0_:=Aside0.mk (Kd.R_elder' (by (with_reducible repeat (first|apply yH|apply yI|apply yJ));exact HO162.out) (Kd.R_base ho0) hb);have n1_:=Aside0.mk (Kd.R_lower (Kd.R_new' ho0 (Kd.R_lt (by (with_reducible repeat (first|apply yH|apply yI|apply yJ));exact HO162.out))) (yQ (by repeat (first|(with_reducible first|exact HB.out|apply yA|apply yB|apply yC|refine yD ?_ GE153.out)|exact HB.out))));have n2_:=Aside0.mk (blk_below (g:=gb153) (o:=.cells #[.slice none 0 0,.slice none 0 0] 43 (0,0)) (by (with_reducible repeat (first|refine yE ?_ _|refine yF ?_|refine yG ?_ _));exact BK153.out) hb);have n3_:=Aside0.mk (yP (by repeat (first|(with_reducible first|exact HB.out|apply yA|apply yB|apply yC|refine yD ?_ GE153.out)|exact HB.out)) hb);clear HO162;clear BK153;clear HB;have HO162:=n0_;have HO166:=n1_;have BK153:=n2_;have HB:=n3_;clear n0_ n1_ n2_ n3_;(try clear hb);(try clear hb2);(try clear hk);(try clear hi);(try clear ho0);obtain ⟨Ao31,co31,eo31⟩:=Kd.R_slice HO166.out;subst eo31;obtain ⟨Ao32,co32,eo32⟩:=Kd.R_slice HO162.out;subst eo32;have hcz33_0:w30.cell? ⟨gb153,0,none⟩=some (.slice none 0 0):=(blk_cell BK153.out 0).trans rfl;have hcz33_1:w30.cell? ⟨gb153,1,none⟩=some (.slice none 0 0):=(blk_cell BK153.out 1).trans rfl;have hfz33_0:=blk_frozen BK153.out 0;have hfz33_1:=blk_frozen BK153.out 1))
   refine bodyPost_ret (results_ct rfl _ _ gb153 43 #[.slice Ao32 t159.length co32,.slice Ao31 t163.length co31] (0,0) _ rfl (by (with_reducible repeat (first|refine yE ?_ _|refine yF ?_|refine yG ?_ _));refine blk_put (cs:=#[.slice Ao32 t159.length co32,.slice none 0 0]) ?_ 1 _ rfl;(with_reducible repeat (first|refine yE ?_ _|refine yF ?_|refine yG ?_ _));refine blk_put (cs:=#[.slice none 0 0,.slice none 0 0]) ?_ 0 _ rfl;(with_reducible repeat (first|refine yE ?_ _|refine yF ?_|refine yG ?_ _));exact BK153.out) Try.underlying43 rfl (by kernel_rfl)) rfl ?_
   exact ⟨_,_,by first|rfl|(simp [errW_none,errW_some]<;>rfl)|(simp [*,errW_none,errW_some]<;>rfl)|(simp [errW_none,errW_some];exact ⟨rfl,rfl⟩),by (with_reducible repeat (first|apply yH|apply yI|apply yJ));exact Kd.R_mono (Kd.R_far (p:=⟨gb153,1,none⟩) (Kd.R_far (p:=⟨gb153,0,none⟩) (Kd.R_types HO162.out BK153.out (by decide)) (fun _ hk=>hk.2) (.slice Ao32 t159.length co32)) (fun _ hk=>hk.2) (.slice Ao31 t163.length co31)) (fun _ hk=>hk.1.2),by (with_reducible repeat (first|apply yH|apply yI|apply yJ));exact Kd.R_mono (Kd.R_far (p:=⟨gb153,1,none⟩) (Kd.R_far (p:=⟨gb153,0,none⟩) (Kd.R_types HO166.out BK153.out (by decide)) (fun _ hk=>hk.2) (.slice Ao32 t159.length co32)) (fun _ hk=>hk.2) (.slice Ao31 t163.length co31)) (fun _ hk=>hk.1.2),by repeat (first|(with_reducible first|exact HB.out|apply yA|apply yB|apply yC|refine yD ?_ GE153.out)|exact HB.out)⟩
 ·replace c6:=Bool.eq_false_iff.mpr c6
  subst c6
  have H1:(some (t159,t163,false))=some (r1,r2,r3):=by rw [if_neg (show ¬ (false=true) by decide)] at H;exact H
  clear H
  have H:=H1
  clear H1
  simp only [Option.some.injEq,Prod.mk.injEq] at H
  obtain ⟨rfl,rfl,rfl⟩:=H
  go_enter Try.func26,Try.ntmps26
  go_wp2_with (first|((with_reducible refine gate_dst (N:=2) rfl ?_);(try (refine gate_guard (by rfl) ?_;dsimp only));refine box_event ?hg (N:=2) ?hd (cs:=#[.slice none 0 0,.slice none 0 0]) (t:=43) ?hr ?_;(case hd=>rfl);(case hg=>rfl);(case hr=>first|(go_simp;done)|(go_simp;rfl));intro gb153 hg w34 hbox hb;have n0_:=Aside0.mk (yP (by repeat (first|(with_reducible first|exact HB.out|apply yA|apply yB|apply yC)|exact HB.out)) hb);have n1_:=Aside0.mk (hbox);have n2_:=Aside0.mk ((by rw [hg];exact (yQ (by repeat (first|(with_reducible first|exact HB.out|apply yA|apply yB|apply yC)|exact HB.out))):w.heap.size≤gb153));have n3_:=Aside0.mk ((by rw [hg];exact (yQ (by repeat (first|(with_reducible first|exact HB.out|apply yA|apply yB|apply yC)|exact HB.out))):w.heap.size≤gb153));clear HB;have HB:=n0_;have BK153:=n1_;have GW153:=n2_;have GE153:=n3_;clear n0_ n1_ n2_ n3_;clear hb hbox hg)|((with_reducible refine gate_callee (f:=52) rfl ?_);refine goesL_ (some 15) rfl rfl Try.func52 (by kernel_rfl) rfl #[.string a0,.string (⟨#[40]⟩:ByteArray)] rfl (by (try simp only [List.map_toArray,List.map_cons,List.map_nil]);first|done|rfl|(simp only [List.length_drop,List.length_take];rfl)) ?_;(with_reducible refine (strings_Cut.calls a0 (⟨#[40]⟩:ByteArray) t154 t155 false _ A2.out).mono ?_);rintro e w' ⟨rfl,⟨nd,rfl⟩⟩;refine ⟨_,rfl,?_⟩;(try (rw [drewN_self w34];generalize hq_:World.drewN w34 _=w34;have n0_:Aside0 (w34.heap[gb153]?=some (.cells #[.slice none 0 0,.slice none 0 0] 43 (0,0))):=⟨by rw [← hq_];exact (by (with_reducible repeat (first|refine yE ?_ _|refine yF ?_|refine yG ?_ _));exact BK153.out)⟩;have n1_:Aside0 (Below w.heap.size w w34):=⟨by rw [← hq_];exact (by repeat (first|(with_reducible first|exact HB.out|apply yA|apply yB|apply yC|refine yD ?_ GE153.out)|exact HB.out))⟩;clear BK153 HB hq_;have BK153:=n0_;have HB:=n1_;clear n0_ n1_)))|((with_reducible refine gate_callee (f:=53) rfl ?_);refine goesL_ (some 21) rfl rfl Try.func53 (by kernel_rfl) rfl #[.string t155,.string (⟨#[41]⟩:ByteArray)] rfl (by (try simp only [List.map_toArray,List.map_cons,List.map_nil]);first|done|rfl|(simp only [List.length_drop,List.length_take];rfl)) ?_;(with_reducible refine (strings_CutSuffix.calls t155 (⟨#[41]⟩:ByteArray) t157 t158 _ A3.out).mono ?_);rintro e w' ⟨rfl,⟨nd,rfl⟩⟩;refine ⟨_,rfl,?_⟩;(try (rw [drewN_self w34];generalize hq_:World.drewN w34 _=w34;have n0_:Aside0 (w34.heap[gb153]?=some (.cells #[.slice none 0 0,.slice none 0 0] 43 (0,0))):=⟨by rw [← hq_];exact (by (with_reducible repeat (first|refine yE ?_ _|refine yF ?_|refine yG ?_ _));exact BK153.out)⟩;have n1_:Aside0 (Below w.heap.size w w34):=⟨by rw [← hq_];exact (by repeat (first|(with_reducible first|exact HB.out|apply yA|apply yB|apply yC|refine yD ?_ GE153.out)|exact HB.out))⟩;clear BK153 HB hq_;have BK153:=n0_;have HB:=n1_;clear n0_ n1_)))|((with_reducible refine gate_callee (f:=54) rfl ?_);refine goesL_ (some 26) rfl rfl Try.func54 (by kernel_rfl) rfl #[.string t154] rfl (by (try simp only [List.map_toArray,List.map_cons,List.map_nil]);first|done|rfl|(simp only [List.length_drop,List.length_take];rfl)) ?_;(with_reducible refine (impl_signs.calls k t154 t159 t160 _ A4.out).mono ?_);rintro e w35 ⟨v161,rfl,ho0,hb⟩;refine ⟨_,rfl,?_⟩;have n0_:=Aside0.mk (Kd.R_lower ho0 (yQ (by repeat (first|(with_reducible first|exact HB.out|apply yA|apply yB|apply yC|refine yD ?_ GE153.out)|exact HB.out))));have n1_:=Aside0.mk (blk_below (g:=gb153) (o:=.cells #[.slice none 0 0,.slice none 0 0] 43 (0,0)) (by (with_reducible repeat (first|refine yE ?_ _|refine yF ?_|refine yG ?_ _));exact BK153.out) hb);have n2_:=Aside0.mk (yP (by repeat (first|(with_reducible first|exact HB.out|apply yA|apply yB|apply yC|refine yD ?_ GE153.out)|exact HB.out)) hb);clear BK153;clear HB;have HO162:=n0_;have BK153:=n1_;have HB:=n2_;clear n0_ n1_ n2_;(try clear hb);(try clear hb2);(try clear hk);(try clear hi);(try clear ho0))|((with_reducible refine gate_callee (f:=54) rfl ?_);refine goesL_ (some 31) rfl rfl Try.func54 (by kernel_rfl) rfl #[.string t157] rfl (by (try simp only [List.map_toArray,List.map_cons,List.map_nil]);first|done|rfl|(simp only [List.length_drop,List.length_take];rfl)) ?_;(with_reducible refine (impl_signs.calls k t157 t163 t164 _ A5.out).mono ?_);rintro e w36 ⟨v165,rfl,ho0,hb⟩;refine ⟨_,rfl,?_⟩;have n0_:=Aside0.mk (Kd.R_elder' (by (with_reducible repeat (first|apply yH|apply yI|apply yJ));exact HO162.out) (Kd.R_base ho0) hb);have n1_:=Aside0.mk (Kd.R_lower (Kd.R_new' ho0 (Kd.R_lt (by (with_reducible repeat (first|apply yH|apply yI|apply yJ));exact HO162.out))) (yQ (by repeat (first|(with_reducible first|exact HB.out|apply yA|apply yB|apply yC|refine yD ?_ GE153.out)|exact HB.out))));have n2_:=Aside0.mk (blk_below (g:=gb153) (o:=.cells #[.slice none 0 0,.slice none 0 0] 43 (0,0)) (by (with_reducible repeat (first|refine yE ?_ _|refine yF ?_|refine yG ?_ _));exact BK153.out) hb);have n3_:=Aside0.mk (yP (by repeat (first|(with_reducible first|exact HB.out|apply yA|apply yB|apply yC|refine yD ?_ GE153.out)|exact HB.out)) hb);clear HO162;clear BK153;clear HB;have HO162:=n0_;have HO166:=n1_;have BK153:=n2_;have HB:=n3_;clear n0_ n1_ n2_ n3_;(try clear hb);(try clear hb2);(try clear hk);(try clear hi);(try clear ho0);obtain ⟨Ao37,co37,eo37⟩:=Kd.R_slice HO166.out;subst eo37;obtain ⟨Ao38,co38,eo38⟩:=Kd.R_slice HO162.out;subst eo38;have hcz39_0:w36.cell? ⟨gb153,0,none⟩=some (.slice none 0 0):=(blk_cell BK153.out 0).trans rfl;have hcz39_1:w36.cell? ⟨gb153,1,none⟩=some (.slice none 0 0):=(blk_cell BK153.out 1).trans rfl;have hfz39_0:=blk_frozen BK153.out 0;have hfz39_1:=blk_frozen BK153.out 1))
  refine bodyPost_ret (results_ct rfl _ _ gb153 43 #[.slice Ao38 t159.length co38,.slice Ao37 t163.length co37] (0,0) _ rfl (by (with_reducible repeat (first|refine yE ?_ _|refine yF ?_|refine yG ?_ _));refine blk_put (cs:=#[.slice Ao38 t159.length co38,.slice none 0 0]) ?_ 1 _ rfl;(with_reducible repeat (first|refine yE ?_ _|refine yF ?_|refine yG ?_ _));refine blk_put (cs:=#[.slice none 0 0,.slice none 0 0]) ?_ 0 _ rfl;(with_reducible repeat (first|refine yE ?_ _|refine yF ?_|refine yG ?_ _));exact BK153.out) Try.underlying43 rfl (by kernel_rfl)) rfl ?_
  exact ⟨_,_,by first|rfl|(simp [errW_none,errW_some]<;>rfl)|(simp [*,errW_none,errW_some]<;>rfl)|(simp [errW_none,errW_some];exact ⟨rfl,rfl⟩),by (with_reducible repeat (first|apply yH|apply yI|apply yJ));exact Kd.R_mono (Kd.R_far (p:=⟨gb153,1,none⟩) (Kd.R_far (p:=⟨gb153,0,none⟩) (Kd.R_types HO162.out BK153.out (by decide)) (fun _ hk=>hk.2) (.slice Ao38 t159.length co38)) (fun _ hk=>hk.2) (.slice Ao37 t163.length co37)) (fun _ hk=>hk.1.2),by (with_reducible repeat (first|apply yH|apply yI|apply yJ));exact Kd.R_mono (Kd.R_far (p:=⟨gb153,1,none⟩) (Kd.R_far (p:=⟨gb153,0,none⟩) (Kd.R_types HO166.out BK153.out (by decide)) (fun _ hk=>hk.2) (.slice Ao38 t159.length co38)) (fun _ hk=>hk.2) (.slice Ao37 t163.length co37)) (fun _ hk=>hk.1.2),by repeat (first|(with_reducible first|exact HB.out|apply yA|apply yB|apply yC|refine yD ?_ GE153.out)|exact HB.out)⟩

end Go.Proofs.Yticdcfgjpopkoaa.P

namespace Go.Proofs.Yticdcfgjpopkoaa.P
open Go.RowKit Go.Proofs.YticdcfgjpopkoaaW.PrintWords Go.Proofs.YticdcfgjpopkoaaW.PrintLast Go.Proofs.YticdcfgjpopkoaaW.PrintMore
attribute [local go_sem] max2_int min2_int max_two min_two max_three min_three max_four min_four   -- for this text's walks alone
set_option linter.unusedVariables false
set_option linter.unusedSimpArgs false

/-! ### impl_tidied: function 55 -/
def impl_tidied.f (k:Nat) (a0:ByteArray):Option (List Bool × List Bool × Bool):=(impl_setOf.f k a0).bind fun bt199=>(if bt199.2.2=true then ((impl_set_tidy.f k bt199.1 bt199.2.1).bind fun bt207=>(some (bt207.1,bt207.2,true))) else (some (([]:List Bool),([]:List Bool),false)))
theorem impl_tidied.mono:∀ a0 k,LeO (impl_tidied.f k a0) (impl_tidied.f (k+1) a0):=by
 intro a0 k
 unfold impl_tidied.f
 repeat' first
   | (with_reducible exact impl_setOf.mono _ _)
   | (with_reducible exact impl_set_tidy.mono _ _ _)
   | (with_reducible exact LeO.refl _)
   | (with_reducible exact LeO.none _)
   | (with_reducible refine LeO.ite ?_ ?_)
   | (with_reducible refine LeO.bind ?_ (fun _=>?_))
   | exact impl_setOf.mono _ _
   | exact impl_set_tidy.mono _ _ _
   | exact LeO.none _
   | refine LeO.ite ?_ ?_
   | refine LeO.bind ?_ (fun _=>?_)
set_option maxHeartbeats 8000000 in
set_option maxRecDepth 100000 in
theorem impl_tidied.calls (k:Nat) (a0:ByteArray) (r1:List Bool) (r2:List Bool) (r3:Bool) (w:World) (h:impl_tidied.f k a0=some (r1,r2,r3)) :
  Calls Try.prog 55 #[.string a0] w fun e w'=>∃ v0_ v1_:Value,e=.returned (.tuple #[.agg #[v0_,v1_],.bool r3])∧Kd.R Kd.bool 4 w' w.heap.size (fun k_=>some k_≠(v1_:Value).ownBlock) v0_ r1∧Kd.R Kd.bool 4 w' w.heap.size (fun k_=>some k_≠(v0_:Value).ownBlock) v1_ r2∧Below w.heap.size w w':=by
 have hu43:=Try.underlying43
 have HB:=Aside0.mk (Below.refl w.heap.size w)
 have H:((impl_setOf.f k a0).bind fun bt199=>(if bt199.2.2=true then ((impl_set_tidy.f k bt199.1 bt199.2.1).bind fun bt207=>(some (bt207.1,bt207.2,true))) else (some (([]:List Bool),([]:List Bool),false))))=some (r1,r2,r3):=h
 clear h
 replace H:=Option.bind_eq_some_iff.mp H
 obtain ⟨⟨t199,t202,t205⟩,A20,H⟩:=H
 replace H:(if t205=true then ((impl_set_tidy.f k t199 t202).bind fun bt207=>(some (bt207.1,bt207.2,true))) else (some (([]:List Bool),([]:List Bool),false)))=some (r1,r2,r3):=H
 have A2:=Aside0.mk A20
 clear A20
 by_cases c3:t205=true
 ·subst c3
  have H1:((impl_set_tidy.f k t199 t202).bind fun bt207=>(some (bt207.1,bt207.2,true)))=some (r1,r2,r3):=by rw [if_pos rfl] at H;exact H
  clear H
  have H:=H1
  clear H1
  replace H:=Option.bind_eq_some_iff.mp H
  obtain ⟨⟨t207,t210⟩,A40,H⟩:=H
  replace H:(some (t207,t210,true))=some (r1,r2,r3):=H
  have A4:=Aside0.mk A40
  clear A40
  simp only [Option.some.injEq,Prod.mk.injEq] at H
  obtain ⟨rfl,rfl,rfl⟩:=H
  go_enter Try.func55,Try.ntmps55
  go_wp2_with (first|((with_reducible refine gate_dst (N:=2) rfl ?_);refine box_event ?hg (N:=2) ?hd (cs:=#[.slice none 0 0,.slice none 0 0]) (t:=43) ?hr ?_;(case hd=>rfl);(case hg=>rfl);(case hr=>first|(go_simp;done)|(go_simp;rfl));intro gb198 hg w5 hbox hb;have n0_:=Aside0.mk (yP (by repeat (first|(with_reducible first|exact HB.out|apply yA|apply yB|apply yC)|exact HB.out)) hb);have n1_:=Aside0.mk (hbox);have n2_:=Aside0.mk ((by rw [hg];exact (yQ (by repeat (first|(with_reducible first|exact HB.out|apply yA|apply yB|apply yC)|exact HB.out))):w.heap.size≤gb198));have n3_:=Aside0.mk ((by rw [hg];exact (yQ (by repeat (first|(with_reducible first|exact HB.out|apply yA|apply yB|apply yC)|exact HB.out))):w.heap.size≤gb198));clear HB;have HB:=n0_;have BK198:=n1_;have GW198:=n2_;have GE198:=n3_;clear n0_ n1_ n2_ n3_;clear hb hbox hg)|((with_reducible refine gate_callee (f:=26) rfl ?_);refine goesL_ (some 8) rfl rfl Try.func26 (by kernel_rfl) rfl #[.string a0] rfl (by (try simp only [List.map_toArray,List.map_cons,List.map_nil]);first|done|rfl|(simp only [List.length_drop,List.length_take];rfl)) ?_;(with_reducible refine (impl_setOf.calls k a0 t199 t202 true _ A2.out).mono ?_);rintro e w6 ⟨v200,v203,rfl,ho0,ho1,hb⟩;refine ⟨_,rfl,?_⟩;have n0_:=Aside0.mk (Kd.R_lower ho0 (yQ (by repeat (first|(with_reducible first|exact HB.out|apply yA|apply yB|apply yC|refine yD ?_ GE198.out)|exact HB.out))));have n1_:=Aside0.mk (Kd.R_lower ho1 (yQ (by repeat (first|(with_reducible first|exact HB.out|apply yA|apply yB|apply yC|refine yD ?_ GE198.out)|exact HB.out))));have n2_:=Aside0.mk (blk_below (g:=gb198) (o:=.cells #[.slice none 0 0,.slice none 0 0] 43 (0,0)) (by (with_reducible repeat (first|refine yE ?_ _|refine yF ?_|refine yG ?_ _));exact BK198.out) hb);have n3_:=Aside0.mk (yP (by repeat (first|(with_reducible first|exact HB.out|apply yA|apply yB|apply yC|refine yD ?_ GE198.out)|exact HB.out)) hb);clear BK198;clear HB;have HO201:=n0_;have HO204:=n1_;have BK198:=n2_;have HB:=n3_;clear n0_ n1_ n2_ n3_;(try clear hb);(try clear hb2);(try clear hk);(try clear hi);(try clear ho0);(try clear ho1))|((with_reducible refine gate_dst (N:=4) rfl ?_);refine box_event ?hg (N:=4) ?hd (cs:=#[.slice none 0 0,.slice none 0 0]) (t:=43) ?hr ?_;(case hd=>rfl);(case hg=>rfl);(case hr=>first|(go_simp;done)|(go_simp;rfl));intro gb206 hg w7 hbox hb;have n0_:=Aside0.mk (Kd.R_below (by (with_reducible repeat (first|apply yH|apply yI|apply yJ));exact HO201.out) hb);have n1_:=Aside0.mk (Kd.R_below (by (with_reducible repeat (first|apply yH|apply yI|apply yJ));exact HO204.out) hb);have n2_:=Aside0.mk (blk_below (g:=gb198) (o:=.cells #[.slice none 0 0,.slice none 0 0] 43 (0,0)) (by (with_reducible repeat (first|refine yE ?_ _|refine yF ?_|refine yG ?_ _));exact BK198.out) hb);have n3_:=Aside0.mk (yP (by repeat (first|(with_reducible first|exact HB.out|apply yA|apply yB|apply yC|refine yD ?_ GE198.out)|exact HB.out)) hb);have n4_:=Aside0.mk (hbox);have n5_:=Aside0.mk ((by rw [hg];exact (yQ (by repeat (first|(with_reducible first|exact HB.out|apply yA|apply yB|apply yC|refine yD ?_ GE198.out)|exact HB.out))):w.heap.size≤gb206));have n6_:=Aside0.mk ((by rw [hg];exact (yQ (by repeat (first|(with_reducible first|exact HB.out|apply yA|apply yB|apply yC|refine yD ?_ GE198.out)|exact HB.out))):w.heap.size≤gb206));have n7_:=Aside0.mk ((by rw [hg];exact Nat.ne_of_lt (blk_lt (g:=gb198) (o:=.cells #[.slice none 0 0,.slice none 0 0] 43 (0,0)) (by (with_reducible repeat (first|refine yE ?_ _|refine yF ?_|refine yG ?_ _));exact BK198.out)):gb198≠gb206));have n8_:=Aside0.mk ((by rw [hg];exact Nat.ne_of_gt (blk_lt (g:=gb198) (o:=.cells #[.slice none 0 0,.slice none 0 0] 43 (0,0)) (by (with_reducible repeat (first|refine yE ?_ _|refine yF ?_|refine yG ?_ _));exact BK198.out)):gb206≠gb198));clear HO201;clear HO204;clear BK198;clear HB;have HO201:=n0_;have HO204:=n1_;have BK198:=n2_;have HB:=n3_;have BK206:=n4_;have GW206:=n5_;have GE206:=n6_;have NB198_206:=n7_;have NB206_198:=n8_;clear n0_ n1_ n2_ n3_ n4_ n5_ n6_ n7_ n8_;clear hb hbox hg;obtain ⟨Ao8,co8,eo8⟩:=Kd.R_slice HO201.out;subst eo8;have hnb9:=NB206_198.out;have hnc9:=NB198_206.out;have hcz10_0:w7.cell? ⟨gb206,0,none⟩=some (.slice none 0 0):=(blk_cell BK206.out 0).trans rfl;have hcz10_1:w7.cell? ⟨gb206,1,none⟩=some (.slice none 0 0):=(blk_cell BK206.out 1).trans rfl;have hfz10_0:=blk_frozen BK206.out 0;have hfz10_1:=blk_frozen BK206.out 1;obtain ⟨Ao11,co11,eo11⟩:=Kd.R_slice HO204.out;subst eo11)|((with_reducible refine gate_callee (f:=57) rfl ?_);refine goesL_ (some 15) rfl rfl Try.func57 (by kernel_rfl) rfl #[.agg #[.slice Ao8 t199.length co8,.slice Ao11 t202.length co11]] rfl (by (try simp only [List.map_toArray,List.map_cons,List.map_nil]);first|done|rfl|(simp only [List.length_drop,List.length_take];rfl)) ?_;(with_reducible refine (impl_set_tidy.calls k _ _ t199 _ _ t202 t207 t210 _ ?side1 ?side2 ?side3 ?side4 A4.out).mono ?_);(case side1=>refine (Kd.R_reads' (e:=4) (base:=w.heap.size) (ok:=fun k_=>some k_≠(.slice Ao11 t202.length co11:Value).ownBlock) (n:=t199.length) (c:=co8) ?_).2.2;exact (by (with_reducible repeat (first|apply yH|apply yI|apply yJ));exact (Kd.R_mono (Kd.R_far (p:=⟨gb206,1,none⟩) (Kd.R_far (p:=⟨gb206,0,none⟩) (Kd.R_types HO201.out BK206.out (by decide)) (fun _ hk=>hk.2) (.slice Ao8 t199.length co8)) (fun _ hk=>hk.2) (.slice Ao11 t202.length co11)) (fun _ h_=>h_.1))));(case side2=>exact (Kd.R_reads' HO201.out).2.1);(case side3=>refine (Kd.R_reads' (e:=4) (base:=w.heap.size) (ok:=fun k_=>some k_≠(.slice Ao8 t199.length co8:Value).ownBlock) (n:=t202.length) (c:=co11) ?_).2.2;exact (by (with_reducible repeat (first|apply yH|apply yI|apply yJ));exact (Kd.R_mono (Kd.R_far (p:=⟨gb206,1,none⟩) (Kd.R_far (p:=⟨gb206,0,none⟩) (Kd.R_types HO204.out BK206.out (by decide)) (fun _ hk=>hk.2) (.slice Ao8 t199.length co8)) (fun _ hk=>hk.2) (.slice Ao11 t202.length co11)) (fun _ h_=>h_.1))));(case side4=>exact (Kd.R_reads' HO204.out).2.1);rintro e w12 ⟨v208,v211,rfl,ho0,ho1,hb⟩;refine ⟨_,rfl,?_⟩;have n0_:=Aside0.mk (Kd.R_mono (Kd.R_told (Kd.R_told (Kd.R_old (by (with_reducible repeat (first|apply yH|apply yI|apply yJ));exact (Kd.R_mono (Kd.R_far (p:=⟨gb206,1,none⟩) (Kd.R_far (p:=⟨gb206,0,none⟩) (Kd.R_types HO201.out BK206.out (by decide)) (fun _ hk=>hk.2) (.slice Ao8 t199.length co8)) (fun _ hk=>hk.2) (.slice Ao11 t202.length co11)) (fun _ h_=>h_.1))) hb) (Kd.R_base ho0)) (Kd.R_base ho1)) (fun _ h_=>h_.1));have n1_:=Aside0.mk (Kd.R_mono (Kd.R_told (Kd.R_told (Kd.R_old (by (with_reducible repeat (first|apply yH|apply yI|apply yJ));exact (Kd.R_mono (Kd.R_far (p:=⟨gb206,1,none⟩) (Kd.R_far (p:=⟨gb206,0,none⟩) (Kd.R_types HO204.out BK206.out (by decide)) (fun _ hk=>hk.2) (.slice Ao8 t199.length co8)) (fun _ hk=>hk.2) (.slice Ao11 t202.length co11)) (fun _ h_=>h_.1))) hb) (Kd.R_base ho0)) (Kd.R_base ho1)) (fun _ h_=>h_.1));have n2_:=Aside0.mk (Kd.R_lower (Kd.R_new' (Kd.R_new' ho0 (Kd.R_lt (by (with_reducible repeat (first|apply yH|apply yI|apply yJ));exact (Kd.R_mono (Kd.R_far (p:=⟨gb206,1,none⟩) (Kd.R_far (p:=⟨gb206,0,none⟩) (Kd.R_types HO201.out BK206.out (by decide)) (fun _ hk=>hk.2) (.slice Ao8 t199.length co8)) (fun _ hk=>hk.2) (.slice Ao11 t202.length co11)) (fun _ h_=>h_.1))))) (Kd.R_lt (by (with_reducible repeat (first|apply yH|apply yI|apply yJ));exact (Kd.R_mono (Kd.R_far (p:=⟨gb206,1,none⟩) (Kd.R_far (p:=⟨gb206,0,none⟩) (Kd.R_types HO204.out BK206.out (by decide)) (fun _ hk=>hk.2) (.slice Ao8 t199.length co8)) (fun _ hk=>hk.2) (.slice Ao11 t202.length co11)) (fun _ h_=>h_.1))))) (yQ (by repeat (first|(with_reducible first|exact HB.out|apply yA|apply yB|apply yC|refine yD ?_ GE198.out|refine yD ?_ GE206.out)|exact HB.out))));have n3_:=Aside0.mk (Kd.R_lower (Kd.R_new' (Kd.R_new' ho1 (Kd.R_lt (by (with_reducible repeat (first|apply yH|apply yI|apply yJ));exact (Kd.R_mono (Kd.R_far (p:=⟨gb206,1,none⟩) (Kd.R_far (p:=⟨gb206,0,none⟩) (Kd.R_types HO201.out BK206.out (by decide)) (fun _ hk=>hk.2) (.slice Ao8 t199.length co8)) (fun _ hk=>hk.2) (.slice Ao11 t202.length co11)) (fun _ h_=>h_.1))))) (Kd.R_lt (by (with_reducible repeat (first|apply yH|apply yI|apply yJ));exact (Kd.R_mono (Kd.R_far (p:=⟨gb206,1,none⟩) (Kd.R_far (p:=⟨gb206,0,none⟩) (Kd.R_types HO204.out BK206.out (by decide)) (fun _ hk=>hk.2) (.slice Ao8 t199.length co8)) (fun _ hk=>hk.2) (.slice Ao11 t202.length co11)) (fun _ h_=>h_.1))))) (yQ (by repeat (first|(with_reducible first|exact HB.out|apply yA|apply yB|apply yC|refine yD ?_ GE198.out|refine yD ?_ GE206.out)|exact HB.out))));have n4_:=Aside0.mk (blk_below (g:=gb198) (o:=.cells #[.slice none 0 0,.slice none 0 0] 43 (0,0)) (by (with_reducible repeat (first|refine yE ?_ _|refine yF ?_|refine yG ?_ _));refine blk_far ?_ NB198_206.out _;(with_reducible repeat (first|refine yE ?_ _|refine yF ?_|refine yG ?_ _));refine blk_far ?_ NB198_206.out _;(with_reducible repeat (first|refine yE ?_ _|refine yF ?_|refine yG ?_ _));exact BK198.out) hb);have n5_:=Aside0.mk (blk_below (g:=gb206) (o:=.cells #[.slice Ao8 t199.length co8,.slice Ao11 t202.length co11] 43 (0,0)) (by (with_reducible repeat (first|refine yE ?_ _|refine yF ?_|refine yG ?_ _));refine blk_put (cs:=#[.slice Ao8 t199.length co8,.slice none 0 0]) ?_ 1 _ rfl;(with_reducible repeat (first|refine yE ?_ _|refine yF ?_|refine yG ?_ _));refine blk_put (cs:=#[.slice none 0 0,.slice none 0 0]) ?_ 0 _ rfl;(with_reducible repeat (first|refine yE ?_ _|refine yF ?_|refine yG ?_ _));exact BK206.out) hb);have n6_:=Aside0.mk (yP (by repeat (first|(with_reducible first|exact HB.out|apply yA|apply yB|apply yC|refine yD ?_ GE198.out|refine yD ?_ GE206.out)|exact HB.out)) hb);clear HO201;clear HO204;clear BK198;clear BK206;clear HB;have HO201:=n0_;have HO204:=n1_;have HO209:=n2_;have HO212:=n3_;have BK198:=n4_;have BK206:=n5_;have HB:=n6_;clear n0_ n1_ n2_ n3_ n4_ n5_ n6_;(try clear hb);(try clear hb2);(try clear hk);(try clear hi);(try clear ho0);(try clear ho1);obtain ⟨Ao13,co13,eo13⟩:=Kd.R_slice HO209.out;subst eo13;have hcz14_0:w12.cell? ⟨gb198,0,none⟩=some (.slice none 0 0):=(blk_cell BK198.out 0).trans rfl;have hcz14_1:w12.cell? ⟨gb198,1,none⟩=some (.slice none 0 0):=(blk_cell BK198.out 1).trans rfl;have hfz14_0:=blk_frozen BK198.out 0;have hfz14_1:=blk_frozen BK198.out 1;obtain ⟨Ao15,co15,eo15⟩:=Kd.R_slice HO212.out;subst eo15))
  refine bodyPost_ret (results_ct rfl _ _ gb198 43 #[.slice Ao13 t207.length co13,.slice Ao15 t210.length co15] (0,0) _ rfl (by (with_reducible repeat (first|refine yE ?_ _|refine yF ?_|refine yG ?_ _));refine blk_put (cs:=#[.slice Ao13 t207.length co13,.slice none 0 0]) ?_ 1 _ rfl;(with_reducible repeat (first|refine yE ?_ _|refine yF ?_|refine yG ?_ _));refine blk_put (cs:=#[.slice none 0 0,.slice none 0 0]) ?_ 0 _ rfl;(with_reducible repeat (first|refine yE ?_ _|refine yF ?_|refine yG ?_ _));exact BK198.out) Try.underlying43 rfl (by kernel_rfl)) rfl ?_
  exact ⟨_,_,by first|rfl|(simp [errW_none,errW_some]<;>rfl)|(simp [*,errW_none,errW_some]<;>rfl)|(simp [errW_none,errW_some];exact ⟨rfl,rfl⟩),by (with_reducible repeat (first|apply yH|apply yI|apply yJ));exact Kd.R_mono (Kd.R_far (p:=⟨gb198,1,none⟩) (Kd.R_far (p:=⟨gb198,0,none⟩) (Kd.R_types HO209.out BK198.out (by decide)) (fun _ hk=>hk.2) (.slice Ao13 t207.length co13)) (fun _ hk=>hk.2) (.slice Ao15 t210.length co15)) (fun _ hk=>hk.1.1.1),by (with_reducible repeat (first|apply yH|apply yI|apply yJ));exact Kd.R_mono (Kd.R_far (p:=⟨gb198,1,none⟩) (Kd.R_far (p:=⟨gb198,0,none⟩) (Kd.R_types HO212.out BK198.out (by decide)) (fun _ hk=>hk.2) (.slice Ao13 t207.length co13)) (fun _ hk=>hk.2) (.slice Ao15 t210.length co15)) (fun _ hk=>hk.1.1.1),by repeat (first|(with_reducible first|exact HB.out|apply yA|apply yB|apply yC|refine yD ?_ GE198.out|refine yD ?_ GE206.out)|exact HB.out)⟩
 ·replace c3:=Bool.eq_false_iff.mpr c3
  subst c3
  have H1:(some (([]:List Bool),([]:List Bool),false))=some (r1,r2,r3):=by rw [if_neg (show ¬ (false=true) by decide)] at H;exact H
  clear H
  have H:=H1
  clear H1
  simp only [Option.some.injEq,Prod.mk.injEq] at H
  obtain ⟨rfl,rfl,rfl⟩:=H
  go_enter Try.func55,Try.ntmps55
  go_wp2_with (first|((with_reducible refine gate_dst (N:=2) rfl ?_);refine box_event ?hg (N:=2) ?hd (cs:=#[.slice none 0 0,.slice none 0 0]) (t:=43) ?hr ?_;(case hd=>rfl);(case hg=>rfl);(case hr=>first|(go_simp;done)|(go_simp;rfl));intro gb198 hg w16 hbox hb;have n0_:=Aside0.mk (yP (by repeat (first|(with_reducible first|exact HB.out|apply yA|apply yB|apply yC)|exact HB.out)) hb);have n1_:=Aside0.mk (hbox);have n2_:=Aside0.mk ((by rw [hg];exact (yQ (by repeat (first|(with_reducible first|exact HB.out|apply yA|apply yB|apply yC)|exact HB.out))):w.heap.size≤gb198));have n3_:=Aside0.mk ((by rw [hg];exact (yQ (by repeat (first|(with_reducible first|exact HB.out|apply yA|apply yB|apply yC)|exact HB.out))):w.heap.size≤gb198));clear HB;have HB:=n0_;have BK198:=n1_;have GW198:=n2_;have GE198:=n3_;clear n0_ n1_ n2_ n3_;clear hb hbox hg)|((with_reducible refine gate_callee (f:=26) rfl ?_);refine goesL_ (some 8) rfl rfl Try.func26 (by kernel_rfl) rfl #[.string a0] rfl (by (try simp only [List.map_toArray,List.map_cons,List.map_nil]);first|done|rfl|(simp only [List.length_drop,List.length_take];rfl)) ?_;(with_reducible refine (impl_setOf.calls k a0 t199 t202 false _ A2.out).mono ?_);rintro e w17 ⟨v200,v203,rfl,ho0,ho1,hb⟩;refine ⟨_,rfl,?_⟩;have n0_:=Aside0.mk (Kd.R_lower ho0 (yQ (by repeat (first|(with_reducible first|exact HB.out|apply yA|apply yB|apply yC|refine yD ?_ GE198.out)|exact HB.out))));have n1_:=Aside0.mk (Kd.R_lower ho1 (yQ (by repeat (first|(with_reducible first|exact HB.out|apply yA|apply yB|apply yC|refine yD ?_ GE198.out)|exact HB.out))));have n2_:=Aside0.mk (blk_below (g:=gb198) (o:=.cells #[.slice none 0 0,.slice none 0 0] 43 (0,0)) (by (with_reducible repeat (first|refine yE ?_ _|refine yF ?_|refine yG ?_ _));exact BK198.out) hb);have n3_:=Aside0.mk (yP (by repeat (first|(with_reducible first|exact HB.out|apply yA|apply yB|apply yC|refine yD ?_ GE198.out)|exact HB.out)) hb);clear BK198;clear HB;have HO201:=n0_;have HO204:=n1_;have BK198:=n2_;have HB:=n3_;clear n0_ n1_ n2_ n3_;(try clear hb);(try clear hb2);(try clear hk);(try clear hi);(try clear ho0);(try clear ho1))|((with_reducible refine gate_dst (N:=4) rfl ?_);refine box_event ?hg (N:=4) ?hd (cs:=#[.slice none 0 0,.slice none 0 0]) (t:=43) ?hr ?_;(case hd=>rfl);(case hg=>rfl);(case hr=>first|(go_simp;done)|(go_simp;rfl));intro gb206 hg w18 hbox hb;have n0_:=Aside0.mk (Kd.R_below (by (with_reducible repeat (first|apply yH|apply yI|apply yJ));exact HO201.out) hb);have n1_:=Aside0.mk (Kd.R_below (by (with_reducible repeat (first|apply yH|apply yI|apply yJ));exact HO204.out) hb);have n2_:=Aside0.mk (blk_below (g:=gb198) (o:=.cells #[.slice none 0 0,.slice none 0 0] 43 (0,0)) (by (with_reducible repeat (first|refine yE ?_ _|refine yF ?_|refine yG ?_ _));exact BK198.out) hb);have n3_:=Aside0.mk (yP (by repeat (first|(with_reducible first|exact HB.out|apply yA|apply yB|apply yC|refine yD ?_ GE198.out)|exact HB.out)) hb);have n4_:=Aside0.mk (hbox);have n5_:=Aside0.mk ((by rw [hg];exact (yQ (by repeat (first|(with_reducible first|exact HB.out|apply yA|apply yB|apply yC|refine yD ?_ GE198.out)|exact HB.out))):w.heap.size≤gb206));have n6_:=Aside0.mk ((by rw [hg];exact (yQ (by repeat (first|(with_reducible first|exact HB.out|apply yA|apply yB|apply yC|refine yD ?_ GE198.out)|exact HB.out))):w.heap.size≤gb206));have n7_:=Aside0.mk ((by rw [hg];exact Nat.ne_of_lt (blk_lt (g:=gb198) (o:=.cells #[.slice none 0 0,.slice none 0 0] 43 (0,0)) (by (with_reducible repeat (first|refine yE ?_ _|refine yF ?_|refine yG ?_ _));exact BK198.out)):gb198≠gb206));have n8_:=Aside0.mk ((by rw [hg];exact Nat.ne_of_gt (blk_lt (g:=gb198) (o:=.cells #[.slice none 0 0,.slice none 0 0] 43 (0,0)) (by (with_reducible repeat (first|refine yE ?_ _|refine yF ?_|refine yG ?_ _));exact BK198.out)):gb206≠gb198));clear HO201;clear HO204;clear BK198;clear HB;have HO201:=n0_;have HO204:=n1_;have BK198:=n2_;have HB:=n3_;have BK206:=n4_;have GW206:=n5_;have GE206:=n6_;have NB198_206:=n7_;have NB206_198:=n8_;clear n0_ n1_ n2_ n3_ n4_ n5_ n6_ n7_ n8_;clear hb hbox hg;obtain ⟨Ao19,co19,eo19⟩:=Kd.R_slice HO201.out;subst eo19;have hnb20:=NB206_198.out;have hnc20:=NB198_206.out;have hcz21_0:w18.cell? ⟨gb206,0,none⟩=some (.slice none 0 0):=(blk_cell BK206.out 0).trans rfl;have hcz21_1:w18.cell? ⟨gb206,1,none⟩=some (.slice none 0 0):=(blk_cell BK206.out 1).trans rfl;have hfz21_0:=blk_frozen BK206.out 0;have hfz21_1:=blk_frozen BK206.out 1;obtain ⟨Ao22,co22,eo22⟩:=Kd.R_slice HO204.out;subst eo22;have hcz23_0:w18.cell? ⟨gb198,0,none⟩=some (.slice none 0 0):=(blk_cell BK198.out 0).trans rfl;have hcz23_1:w18.cell? ⟨gb198,1,none⟩=some (.slice none 0 0):=(blk_cell BK198.out 1).trans rfl;have hfz23_0:=blk_frozen BK198.out 0;have hfz23_1:=blk_frozen BK198.out 1))
  refine bodyPost_ret (results_ct rfl _ _ gb198 43 #[.slice none 0 0,.slice none 0 0] (0,0) _ rfl (by (with_reducible repeat (first|refine yE ?_ _|refine yF ?_|refine yG ?_ _));refine blk_put (cs:=#[.slice none 0 0,.slice none 0 0]) ?_ 1 _ rfl;(with_reducible repeat (first|refine yE ?_ _|refine yF ?_|refine yG ?_ _));refine blk_put (cs:=#[.slice none 0 0,.slice none 0 0]) ?_ 0 _ rfl;(with_reducible repeat (first|refine yE ?_ _|refine yF ?_|refine yG ?_ _));refine blk_far ?_ NB198_206.out _;(with_reducible repeat (first|refine yE ?_ _|refine yF ?_|refine yG ?_ _));refine blk_far ?_ NB198_206.out _;(with_reducible repeat (first|refine yE ?_ _|refine yF ?_|refine yG ?_ _));exact BK198.out) Try.underlying43 rfl (by kernel_rfl)) rfl ?_
  exact ⟨_,_,by first|rfl|(simp [errW_none,errW_some]<;>rfl)|(simp [*,errW_none,errW_some]<;>rfl)|(simp [errW_none,errW_some];exact ⟨rfl,rfl⟩),by first|exact Kd.R_nil _ _ _ _ _|exact Kd.N_nil _ _ _ _ _|exact Kd.V_nil _ _ _ _ _|exact Kd.Q_nil _ _ _ _ _|exact Kd.S_nil _ _ _ _ _,by first|exact Kd.R_nil _ _ _ _ _|exact Kd.N_nil _ _ _ _ _|exact Kd.V_nil _ _ _ _ _|exact Kd.Q_nil _ _ _ _ _|exact Kd.S_nil _ _ _ _ _,by repeat (first|(with_reducible first|exact HB.out|apply yA|apply yB|apply yC|refine yD ?_ GE198.out|refine yD ?_ GE206.out)|exact HB.out)⟩

end Go.Proofs.Yticdcfgjpopkoaa.P

namespace Go.Proofs.Yticdcfgjpopkoaa.P
open Go.RowKit Go.Proofs.YticdcfgjpopkoaaW.PrintWords Go.Proofs.YticdcfgjpopkoaaW.PrintLast Go.Proofs.YticdcfgjpopkoaaW.PrintMore
attribute [local go_sem] max2_int min2_int max_two min_two max_three min_three max_four min_four   -- for this text's walks alone
set_option linter.unusedVariables false
set_option linter.unusedSimpArgs false

/-! ### impl_small: function 29 -/
def impl_small.f (k:Nat) (a0:ByteArray):Option (List Bool × List Bool × Bool):=(impl_tidied.f k a0).bind fun bt214=>(if bt214.2.2=true then (if (bt214.1.length:Int)≤8 then (some (bt214.1,bt214.2.1,decide ((bt214.2.1.length:Int)≤8))) else (some (bt214.1,bt214.2.1,false))) else (some (bt214.1,bt214.2.1,false)))
theorem impl_small.mono:∀ a0 k,LeO (impl_small.f k a0) (impl_small.f (k+1) a0):=by
 intro a0 k
 unfold impl_small.f
 repeat' first
   | (with_reducible exact impl_tidied.mono _ _)
   | (with_reducible exact LeO.refl _)
   | (with_reducible exact LeO.none _)
   | (with_reducible refine LeO.ite ?_ ?_)
   | (with_reducible refine LeO.bind ?_ (fun _=>?_))
   | exact impl_tidied.mono _ _
   | exact LeO.none _
   | refine LeO.ite ?_ ?_
   | refine LeO.bind ?_ (fun _=>?_)
def impl_small.T2:Bool × List (List Nat × List Nat):=(true,[([],[]),([],[]),([1],[1]),([2],[2]),([3,2],[2,3]),([4,2],[2,4]),([5,2],[2,5]),([2,6],[2,6]),([7,2],[7]),([8],[8]),([9,8],[8,9]),([10,8],[8,10]),([11,8],[8,11]),([8,12],[8,12]),([0,8,0],[0]),([13,14,0,1,2,3,4,5,6,7,8,9,10,11,12,13,14],[13])])
def impl_small.B2:List Nat:=[0,0,2,6,14,30,62,126,254,510,1022,2046,4094,8190,511,32767]
theorem impl_small.tab2:rtab .any (opsOf Try.f29 2)=impl_small.T2:=by kernel_rfl
theorem impl_small.bits2:waitsOk impl_small.T2.2 impl_small.B2=true:=by kernel_rfl
set_option maxHeartbeats 8000000 in
set_option maxRecDepth 100000 in
theorem impl_small.calls (k:Nat) (a0:ByteArray) (r1:List Bool) (r2:List Bool) (r3:Bool) (w:World) (h:impl_small.f k a0=some (r1,r2,r3)) :
  Calls Try.prog 29 #[.string a0] w fun e w'=>∃ v0_ v1_:Value,e=.returned (.tuple #[.agg #[v0_,v1_],.bool r3])∧Kd.R Kd.bool 4 w' w.heap.size (fun k_=>some k_≠(v1_:Value).ownBlock) v0_ r1∧Kd.R Kd.bool 4 w' w.heap.size (fun k_=>some k_≠(v0_:Value).ownBlock) v1_ r2∧Below w.heap.size w w':=by
 have hu43:=Try.underlying43
 have HB:=Aside0.mk (Below.refl w.heap.size w)
 have H:((impl_tidied.f k a0).bind fun bt214=>(if bt214.2.2=true then (if (bt214.1.length:Int)≤8 then (some (bt214.1,bt214.2.1,decide ((bt214.2.1.length:Int)≤8))) else (some (bt214.1,bt214.2.1,false))) else (some (bt214.1,bt214.2.1,false))))=some (r1,r2,r3):=h
 clear h
 replace H:=Option.bind_eq_some_iff.mp H
 obtain ⟨⟨t214,t217,t220⟩,A20,H⟩:=H
 replace H:(if t220=true then (if (t214.length:Int)≤8 then (some (t214,t217,decide ((t217.length:Int)≤8))) else (some (t214,t217,false))) else (some (t214,t217,false)))=some (r1,r2,r3):=H
 have A2:=Aside0.mk A20
 clear A20
 by_cases c3:t220=true
 ·subst c3
  have H1:(if (t214.length:Int)≤8 then (some (t214,t217,decide ((t217.length:Int)≤8))) else (some (t214,t217,false)))=some (r1,r2,r3):=by rw [if_pos rfl] at H;exact H
  clear H
  have H:=H1
  clear H1
  by_cases c4:(t214.length:Int)≤8
  ·rw [if_pos c4] at H
   have c4b0:decide ((t214.length:Int)≤8)=true:=decide_eq_true c4
   have c4b1:decide (t214.length≤8)=true:=decide_eq_true (by omega)
   clear c4
   simp only [Option.some.injEq,Prod.mk.injEq] at H
   obtain ⟨rfl,rfl,rfl⟩:=H
   go_enter Try.func29,Try.ntmps29
   try go_wp2_with (first|((with_reducible refine gate_dst (N:=2) rfl ?_);(try (refine gate_guard (by rfl) ?_;dsimp only));refine box_event ?hg (N:=2) ?hd (cs:=#[.slice none 0 0,.slice none 0 0]) (t:=43) ?hr ?_;(case hd=>rfl);(case hg=>rfl);(case hr=>first|(go_simp;done)|(go_simp;rfl));intro gb213 hg w5 hbox hb;have n0_:=Aside0.mk (yP (by repeat (first|(with_reducible first|exact HB.out|apply yA|apply yB|apply yC)|exact HB.out)) hb);have n1_:=Aside0.mk (hbox);have n2_:=Aside0.mk ((by rw [hg];exact (yQ (by repeat (first|(with_reducible first|exact HB.out|apply yA|apply yB|apply yC)|exact HB.out))):w.heap.size≤gb213));have n3_:=Aside0.mk ((by rw [hg];exact (yQ (by repeat (first|(with_reducible first|exact HB.out|apply yA|apply yB|apply yC)|exact HB.out))):w.heap.size≤gb213));clear HB;have HB:=n0_;have BK213:=n1_;have GW213:=n2_;have GE213:=n3_;clear n0_ n1_ n2_ n3_;clear hb hbox hg)|((with_reducible refine gate_callee (f:=55) rfl ?_);refine goesL_ (some 8) rfl rfl Try.func55 (by kernel_rfl) rfl #[.string a0] rfl (by (try simp only [List.map_toArray,List.map_cons,List.map_nil]);first|done|rfl|(simp only [List.length_drop,List.length_take];rfl)) ?_;(with_reducible refine (impl_tidied.calls k a0 t214 t217 true _ A2.out).mono ?_);rintro e w6 ⟨v215,v218,rfl,ho0,ho1,hb⟩;refine ⟨_,rfl,?_⟩;have n0_:=Aside0.mk (Kd.R_lower ho0 (yQ (by repeat (first|(with_reducible first|exact HB.out|apply yA|apply yB|apply yC|refine yD ?_ GE213.out)|exact HB.out))));have n1_:=Aside0.mk (Kd.R_lower ho1 (yQ (by repeat (first|(with_reducible first|exact HB.out|apply yA|apply yB|apply yC|refine yD ?_ GE213.out)|exact HB.out))));have n2_:=Aside0.mk (blk_below (g:=gb213) (o:=.cells #[.slice none 0 0,.slice none 0 0] 43 (0,0)) (by (with_reducible repeat (first|refine yE ?_ _|refine yF ?_|refine yG ?_ _));exact BK213.out) hb);have n3_:=Aside0.mk (yP (by repeat (first|(with_reducible first|exact HB.out|apply yA|apply yB|apply yC|refine yD ?_ GE213.out)|exact HB.out)) hb);clear BK213;clear HB;have HO216:=n0_;have HO219:=n1_;have BK213:=n2_;have HB:=n3_;clear n0_ n1_ n2_ n3_;(try clear hb);(try clear hb2);(try clear hk);(try clear hi);(try clear ho0);(try clear ho1))|((with_reducible refine gate_dst (N:=4) rfl ?_);(try (refine gate_guard (by rfl) ?_;dsimp only));refine box_event ?hg (N:=4) ?hd (cs:=#[.slice none 0 0,.slice none 0 0]) (t:=43) ?hr ?_;(case hd=>rfl);(case hg=>rfl);(case hr=>first|(go_simp;done)|(go_simp;rfl));intro gb221 hg w7 hbox hb;have n0_:=Aside0.mk (Kd.R_below (by (with_reducible repeat (first|apply yH|apply yI|apply yJ));exact HO216.out) hb);have n1_:=Aside0.mk (Kd.R_below (by (with_reducible repeat (first|apply yH|apply yI|apply yJ));exact HO219.out) hb);have n2_:=Aside0.mk (blk_below (g:=gb213) (o:=.cells #[.slice none 0 0,.slice none 0 0] 43 (0,0)) (by (with_reducible repeat (first|refine yE ?_ _|refine yF ?_|refine yG ?_ _));exact BK213.out) hb);have n3_:=Aside0.mk (yP (by repeat (first|(with_reducible first|exact HB.out|apply yA|apply yB|apply yC|refine yD ?_ GE213.out)|exact HB.out)) hb);have n4_:=Aside0.mk (hbox);have n5_:=Aside0.mk ((by rw [hg];exact (yQ (by repeat (first|(with_reducible first|exact HB.out|apply yA|apply yB|apply yC|refine yD ?_ GE213.out)|exact HB.out))):w.heap.size≤gb221));have n6_:=Aside0.mk ((by rw [hg];exact (yQ (by repeat (first|(with_reducible first|exact HB.out|apply yA|apply yB|apply yC|refine yD ?_ GE213.out)|exact HB.out))):w.heap.size≤gb221));have n7_:=Aside0.mk ((by rw [hg];exact Nat.ne_of_lt (blk_lt (g:=gb213) (o:=.cells #[.slice none 0 0,.slice none 0 0] 43 (0,0)) (by (with_reducible repeat (first|refine yE ?_ _|refine yF ?_|refine yG ?_ _));exact BK213.out)):gb213≠gb221));have n8_:=Aside0.mk ((by rw [hg];exact Nat.ne_of_gt (blk_lt (g:=gb213) (o:=.cells #[.slice none 0 0,.slice none 0 0] 43 (0,0)) (by (with_reducible repeat (first|refine yE ?_ _|refine yF ?_|refine yG ?_ _));exact BK213.out)):gb221≠gb213));clear HO216;clear HO219;clear BK213;clear HB;have HO216:=n0_;have HO219:=n1_;have BK213:=n2_;have HB:=n3_;have BK221:=n4_;have GW221:=n5_;have GE221:=n6_;have NB213_221:=n7_;have NB221_213:=n8_;clear n0_ n1_ n2_ n3_ n4_ n5_ n6_ n7_ n8_;clear hb hbox hg;obtain ⟨Ao8,co8,eo8⟩:=Kd.R_slice HO216.out;subst eo8;have hnb9:=NB221_213.out;have hnc9:=NB213_221.out;have hcz10_0:w7.cell? ⟨gb221,0,none⟩=some (.slice none 0 0):=(blk_cell BK221.out 0).trans rfl;have hcz10_1:w7.cell? ⟨gb221,1,none⟩=some (.slice none 0 0):=(blk_cell BK221.out 1).trans rfl;have hfz10_0:=blk_frozen BK221.out 0;have hfz10_1:=blk_frozen BK221.out 1;obtain ⟨Ao11,co11,eo11⟩:=Kd.R_slice HO219.out;subst eo11))
   have n0_:Aside0 (Kd.R Kd.bool 4 ((w7.setCell ⟨gb221,0,none⟩ (.slice Ao8 t214.length co8)).setCell ⟨gb221,1,none⟩ (.slice Ao11 t217.length co11)) w.heap.size (fun k_=>some k_≠(.slice Ao11 t217.length co11:Value).ownBlock) (.slice Ao8 t214.length co8) t214):=⟨by (with_reducible repeat (first|apply yH|apply yI|apply yJ));exact Kd.R_mono (Kd.R_far (p:=⟨gb221,1,none⟩) (Kd.R_far (p:=⟨gb221,0,none⟩) (Kd.R_types HO216.out BK221.out (by decide)) (fun _ hk=>hk.2) (.slice Ao8 t214.length co8)) (fun _ hk=>hk.2) (.slice Ao11 t217.length co11)) (fun _ hk=>hk.1)⟩
   have n1_:Aside0 (Kd.R Kd.bool 4 ((w7.setCell ⟨gb221,0,none⟩ (.slice Ao8 t214.length co8)).setCell ⟨gb221,1,none⟩ (.slice Ao11 t217.length co11)) w.heap.size (fun k_=>some k_≠(.slice Ao8 t214.length co8:Value).ownBlock) (.slice Ao11 t217.length co11) t217):=⟨by (with_reducible repeat (first|apply yH|apply yI|apply yJ));exact Kd.R_mono (Kd.R_far (p:=⟨gb221,1,none⟩) (Kd.R_far (p:=⟨gb221,0,none⟩) (Kd.R_types HO219.out BK221.out (by decide)) (fun _ hk=>hk.2) (.slice Ao8 t214.length co8)) (fun _ hk=>hk.2) (.slice Ao11 t217.length co11)) (fun _ hk=>hk.1)⟩
   have n2_:Aside0 (((w7.setCell ⟨gb221,0,none⟩ (.slice Ao8 t214.length co8)).setCell ⟨gb221,1,none⟩ (.slice Ao11 t217.length co11)).heap[gb213]?=some (.cells #[.slice none 0 0,.slice none 0 0] 43 (0,0))):=⟨by (with_reducible repeat (first|refine yE ?_ _|refine yF ?_|refine yG ?_ _));refine blk_far ?_ NB213_221.out _;(with_reducible repeat (first|refine yE ?_ _|refine yF ?_|refine yG ?_ _));refine blk_far ?_ NB213_221.out _;(with_reducible repeat (first|refine yE ?_ _|refine yF ?_|refine yG ?_ _));exact BK213.out⟩
   have n3_:Aside0 (((w7.setCell ⟨gb221,0,none⟩ (.slice Ao8 t214.length co8)).setCell ⟨gb221,1,none⟩ (.slice Ao11 t217.length co11)).heap[gb221]?=some (.cells #[.slice Ao8 t214.length co8,.slice Ao11 t217.length co11] 43 (0,0))):=⟨by (with_reducible repeat (first|refine yE ?_ _|refine yF ?_|refine yG ?_ _));refine blk_put (cs:=#[.slice Ao8 t214.length co8,.slice none 0 0]) ?_ 1 _ rfl;(with_reducible repeat (first|refine yE ?_ _|refine yF ?_|refine yG ?_ _));refine blk_put (cs:=#[.slice none 0 0,.slice none 0 0]) ?_ 0 _ rfl;(with_reducible repeat (first|refine yE ?_ _|refine yF ?_|refine yG ?_ _));exact BK221.out⟩
   have n4_:Aside0 (Below w.heap.size w ((w7.setCell ⟨gb221,0,none⟩ (.slice Ao8 t214.length co8)).setCell ⟨gb221,1,none⟩ (.slice Ao11 t217.length co11))):=⟨by repeat (first|(with_reducible first|exact HB.out|apply yA|apply yB|apply yC|refine yD ?_ GE213.out|refine yD ?_ GE221.out)|exact HB.out)⟩
   (try clear HO216)
   (try clear HO219)
   (try clear BK213)
   (try clear BK221)
   (try clear HB)
   generalize ((w7.setCell ⟨gb221,0,none⟩ (.slice Ao8 t214.length co8)).setCell ⟨gb221,1,none⟩ (.slice Ao11 t217.length co11))=w12 at n0_ n1_ n2_ n3_ n4_ ⊢
   have HO216:=n0_
   have HO219:=n1_
   have BK213:=n2_
   have BK221:=n3_
   have HB:=n4_
   clear n0_ n1_ n2_ n3_ n4_
   have n0_:=Aside0.mk (yJ HO216.out)
   have n1_:=Aside0.mk (yJ HO219.out)
   have n2_:=Aside0.mk (yF BK213.out)
   have n3_:=Aside0.mk (yF BK221.out)
   have n4_:=Aside0.mk (yC HB.out)
   clear HO216
   clear HO219
   clear BK213
   clear BK221
   clear HB
   have HO216:=n0_
   have HO219:=n1_
   have BK213:=n2_
   have BK221:=n3_
   have HB:=n4_
   clear n0_ n1_ n2_ n3_ n4_
   refine start_ (n:=16) (S:=fun w'=>w'.cell? ⟨gb221,0,none⟩=some (.slice Ao8 t214.length co8)∧w'.cell? ⟨gb221,1,none⟩=some (.slice Ao11 t217.length co11)) (ds:=[]) #[false,false,false,false,false,false,false,false,false,false,false,false,false,false,false,false] (by kernel_rfl) rfl rfl ⟨(blk_cell BK221.out 0).trans rfl,(blk_cell BK221.out 1).trans rfl⟩ (fun hHeld=>?_);refine with_tabW impl_small.tab2 impl_small.bits2 (fun HT_ HW_=>?_)
   generalize w12.drew=w13 at HO216 HO219 BK213 BK221 HB hHeld ⊢
   refine pure_ (i:=1) (N:=some 12) (v:=?_) (a':=?_) #[false,true,false,false,false,false,false,false,false,false,false,false,false,false,false,false] rfl rfl (any_of HT_.out (by kernel_rfl)) (fun _ _ _ h=>h) (Or.inl ⟨by rfl,?_⟩) ?_ ?_
   rotate_left
   ·intro w'
    go_simp
    with_reducible rfl
   rotate_left
   ·simp only [Act.put,yK,yL,yM,i64_w,i32_w]
    rfl
   refine pure_ (i:=2) (N:=some 13) (v:=?_) (a':=?_) #[false,true,true,false,false,false,false,false,false,false,false,false,false,false,false,false] rfl rfl (any_of HT_.out (by kernel_rfl)) (fun _ _ _ h=>h) (Or.inl ⟨by rfl,?_⟩) ?_ ?_
   rotate_left
   ·intro w'
    go_simp
    with_reducible rfl
   rotate_left
   ·simp only [Act.put,yK,yL,yM,i64_w,i32_w]
    rfl
   refine pure_ (i:=3) (N:=some 14) (v:=?_) (a':=?_) #[false,true,true,true,false,false,false,false,false,false,false,false,false,false,false,false] rfl rfl (any_of HT_.out (by kernel_rfl)) (fun _ _ _ h=>h) (Or.inl ⟨by rfl,?_⟩) ?_ ?_
   rotate_left
   ·intro w'
    go_simp
    with_reducible rfl
   rotate_left
   ·simp only [Act.put,yK,yL,yM,i64_w,i32_w]
    rfl
   refine take_ (i:=0) (N:=some 11) (v:=?_) (a':=?_) #[true,true,true,true,false,false,false,false,false,false,false,false,false,false,false,false] rfl rfl (take_ofW HT_.out HW_.out (by kernel_rfl)) (fun _ _ _ h=>h) (Or.inl ⟨by rfl,?_⟩) hHeld ?_ ?_
   rotate_left
   ·rintro w' ⟨s0,s1⟩
    go_simp
    with_reducible rfl
   rotate_left
   ·simp only [Act.put,yK,yL,yM,i64_w,i32_w]
    rfl
   refine take_ (i:=4) (N:=some 15) (v:=?_) (a':=?_) #[true,true,true,true,true,false,false,false,false,false,false,false,false,false,false,false] rfl rfl (take_ofW HT_.out HW_.out (by kernel_rfl)) (fun _ _ _ h=>h) (Or.inl ⟨by rfl,?_⟩) hHeld ?_ ?_
   rotate_left
   ·rintro w' ⟨s0,s1⟩
    go_simp
    with_reducible rfl
   rotate_left
   ·simp only [Act.put,yK,yL,yM,i64_w,i32_w]
    rfl
   refine pure_ (i:=5) (N:=some 16) (v:=?_) (a':=?_) #[true,true,true,true,true,true,false,false,false,false,false,false,false,false,false,false] rfl rfl (any_of HT_.out (by kernel_rfl)) (fun _ _ _ h=>h) (Or.inl ⟨by rfl,?_⟩) ?_ ?_
   rotate_left
   ·intro w'
    go_simp
    with_reducible rfl
   rotate_left
   ·simp only [Act.put,yK,yL,yM,i64_w,i32_w]
    rfl
   refine pure_ (i:=6) (N:=some 17) (v:=?_) (a':=?_) #[true,true,true,true,true,true,true,false,false,false,false,false,false,false,false,false] rfl rfl (any_of HT_.out (by kernel_rfl)) (fun _ _ _ h=>h) (Or.inl ⟨by rfl,?_⟩) ?_ ?_
   rotate_left
   ·intro w'
    go_simp
    with_reducible rfl
   rotate_left
   ·simp only [Act.put,yK,yL,yM,i64_w,i32_w]
    rfl
   refine pure_ (i:=7) (N:=some 18) (v:=?_) (a':=?_) #[true,true,true,true,true,true,true,true,false,false,false,false,false,false,false,false] rfl rfl (any_of HT_.out (by kernel_rfl)) (fun _ _ _ h=>h) (Or.inl ⟨by rfl,?_⟩) ?_ ?_
   rotate_left
   ·intro w'
    go_simp
    with_reducible rfl
   rotate_left
   ·simp only [Act.put,yK,yL,yM,i64_w,i32_w]
    rfl
   refine pure_ (i:=8) (N:=some 19) (v:=?_) (a':=?_) #[true,true,true,true,true,true,true,true,true,false,false,false,false,false,false,false] rfl rfl (any_of HT_.out (by kernel_rfl)) (fun _ _ _ h=>h) (Or.inl ⟨by rfl,?_⟩) ?_ ?_
   rotate_left
   ·intro w'
    go_simp
    with_reducible rfl
   rotate_left
   ·simp only [Act.put,yK,yL,yM,i64_w,i32_w]
    rfl
   refine pure_ (i:=9) (N:=some 20) (v:=?_) (a':=?_) #[true,true,true,true,true,true,true,true,true,true,false,false,false,false,false,false] rfl rfl (any_of HT_.out (by kernel_rfl)) (fun _ _ _ h=>h) (Or.inl ⟨by rfl,?_⟩) ?_ ?_
   rotate_left
   ·intro w'
    go_simp
    with_reducible rfl
   rotate_left
   ·simp only [Act.put,yK,yL,yM,i64_w,i32_w]
    rfl
   refine take_ (i:=10) (N:=some 21) (v:=?_) (a':=?_) #[true,true,true,true,true,true,true,true,true,true,true,false,false,false,false,false] rfl rfl (take_ofW HT_.out HW_.out (by kernel_rfl)) (fun _ _ _ h=>h) (Or.inl ⟨by rfl,?_⟩) hHeld ?_ ?_
   rotate_left
   ·rintro w' ⟨s0,s1⟩
    go_simp
    with_reducible rfl
   rotate_left
   ·simp only [Act.put,yK,yL,yM,i64_w,i32_w]
    rfl
   refine pure_ (i:=11) (N:=some 22) (v:=?_) (a':=?_) #[true,true,true,true,true,true,true,true,true,true,true,true,false,false,false,false] rfl rfl (any_of HT_.out (by kernel_rfl)) (fun _ _ _ h=>h) (Or.inl ⟨by rfl,?_⟩) ?_ ?_
   rotate_left
   ·intro w'
    go_simp
    with_reducible rfl
   rotate_left
   ·simp only [Act.put,yK,yL,yM,i64_w,i32_w]
    rfl
   refine pure_ (i:=12) (N:=some 23) (v:=?_) (a':=?_) #[true,true,true,true,true,true,true,true,true,true,true,true,true,false,false,false] rfl rfl (any_of HT_.out (by kernel_rfl)) (fun _ _ _ h=>h) (Or.inl ⟨by rfl,?_⟩) ?_ ?_
   rotate_left
   ·intro w'
    go_simp
    with_reducible rfl
   rotate_left
   ·simp only [Act.put,yK,yL,yM,i64_w,i32_w]
    rfl
   refine pure_ (i:=13) (N:=some 24) (v:=?_) (a':=?_) #[true,true,true,true,true,true,true,true,true,true,true,true,true,true,false,false] rfl rfl (any_of HT_.out (by kernel_rfl)) (fun _ _ _ h=>h) (Or.inl ⟨by rfl,?_⟩) ?_ ?_
   rotate_left
   ·intro w'
    go_simp
    with_reducible rfl
   rotate_left
   ·simp only [Act.put,yK,yL,yM,i64_w,i32_w]
    rfl
   refine one_ (i:=14) (N:=none) #[true,true,true,true,true,true,true,true,true,true,true,true,true,true,true,false] rfl rfl (one_of HT_.out (by kernel_rfl)) (by decide) (fun K hK=>?_)
   have hs14:w13.cell? ⟨gb213,0,none⟩=some (.slice none 0 0):=(blk_cell BK213.out 0).trans rfl
   have hfs14:=blk_frozen BK213.out 0
   have hns14_1:=NB221_213.out
   have hms14_1:=NB213_221.out
   have hs15:w13.cell? ⟨gb213,1,none⟩=some (.slice none 0 0):=(blk_cell BK213.out 1).trans rfl
   have hfs15:=blk_frozen BK213.out 1
   have hns15_1:=NB221_213.out
   have hms15_1:=NB213_221.out
   refine skip_ (w1:=?_) (by rfl) rfl ?_ ?_
   rotate_left
   ·go_simp
    rfl
   refine hK.out _ _ ⟨((cell_far (p:=⟨gb213,_,none⟩) NB221_213.out _).trans (((cell_far (p:=⟨gb213,_,none⟩) NB221_213.out _).trans (hHeld.1)))),((cell_far (p:=⟨gb213,_,none⟩) NB221_213.out _).trans (((cell_far (p:=⟨gb213,_,none⟩) NB221_213.out _).trans (hHeld.2))))⟩ (fun hHeld=>?_)
   clear hK K
   refine pure_ (i:=15) (N:=some 3) (v:=?_) (a':=?_) #[true,true,true,true,true,true,true,true,true,true,true,true,true,true,true,true] rfl rfl (any_of HT_.out (by kernel_rfl)) (fun _ _ _ h=>h) (Or.inl ⟨by rfl,?_⟩) ?_ ?_
   rotate_left
   ·intro w'
    go_simp
    with_reducible rfl
   rotate_left
   ·simp only [Act.put,yK,yL,yM,i64_w,i32_w]
    rfl
   refine done_ (done_of HT_.out (by kernel_rfl)) ?_
   try go_wp2
   refine bodyPost_ret (results_ct rfl _ _ gb213 43 #[.slice Ao8 t214.length co8,.slice Ao11 t217.length co11] (0,0) _ rfl (by (with_reducible repeat (first|refine yE ?_ _|refine yF ?_|refine yG ?_ _));refine blk_put (cs:=#[.slice Ao8 t214.length co8,.slice none 0 0]) ?_ 1 _ rfl;(with_reducible repeat (first|refine yE ?_ _|refine yF ?_|refine yG ?_ _));refine blk_put (cs:=#[.slice none 0 0,.slice none 0 0]) ?_ 0 _ rfl;(with_reducible repeat (first|refine yE ?_ _|refine yF ?_|refine yG ?_ _));exact BK213.out) Try.underlying43 rfl (by kernel_rfl)) rfl ?_
   exact ⟨_,_,by first|rfl|(simp [errW_none,errW_some]<;>rfl)|(simp [*,errW_none,errW_some]<;>rfl)|(simp [errW_none,errW_some];exact ⟨rfl,rfl⟩),by (with_reducible repeat (first|apply yH|apply yI|apply yJ));exact Kd.R_mono (Kd.R_far (p:=⟨gb213,1,none⟩) (Kd.R_far (p:=⟨gb213,0,none⟩) (Kd.R_types HO216.out BK213.out (by decide)) (fun _ hk=>hk.2) (.slice Ao8 t214.length co8)) (fun _ hk=>hk.2) (.slice Ao11 t217.length co11)) (fun _ hk=>hk.1),by (with_reducible repeat (first|apply yH|apply yI|apply yJ));exact Kd.R_mono (Kd.R_far (p:=⟨gb213,1,none⟩) (Kd.R_far (p:=⟨gb213,0,none⟩) (Kd.R_types HO219.out BK213.out (by decide)) (fun _ hk=>hk.2) (.slice Ao8 t214.length co8)) (fun _ hk=>hk.2) (.slice Ao11 t217.length co11)) (fun _ hk=>hk.1),by repeat (first|(with_reducible first|exact HB.out|apply yA|apply yB|apply yC|refine yD ?_ GE213.out|refine yD ?_ GE221.out)|exact HB.out)⟩
  ·rw [if_neg c4] at H
   have c4b0:decide ((t214.length:Int)≤8)=false:=decide_eq_false c4
   have c4b1:decide (t214.length≤8)=false:=decide_eq_false (by omega)
   clear c4
   simp only [Option.some.injEq,Prod.mk.injEq] at H
   obtain ⟨rfl,rfl,rfl⟩:=H
   go_enter Try.func29,Try.ntmps29
   try go_wp2_with (first|((with_reducible refine gate_dst (N:=2) rfl ?_);(try (refine gate_guard (by rfl) ?_;dsimp only));refine box_event ?hg (N:=2) ?hd (cs:=#[.slice none 0 0,.slice none 0 0]) (t:=43) ?hr ?_;(case hd=>rfl);(case hg=>rfl);(case hr=>first|(go_simp;done)|(go_simp;rfl));intro gb213 hg w16 hbox hb;have n0_:=Aside0.mk (yP (by repeat (first|(with_reducible first|exact HB.out|apply yA|apply yB|apply yC)|exact HB.out)) hb);have n1_:=Aside0.mk (hbox);have n2_:=Aside0.mk ((by rw [hg];exact (yQ (by repeat (first|(with_reducible first|exact HB.out|apply yA|apply yB|apply yC)|exact HB.out))):w.heap.size≤gb213));have n3_:=Aside0.mk ((by rw [hg];exact (yQ (by repeat (first|(with_reducible first|exact HB.out|apply yA|apply yB|apply yC)|exact HB.out))):w.heap.size≤gb213));clear HB;have HB:=n0_;have BK213:=n1_;have GW213:=n2_;have GE213:=n3_;clear n0_ n1_ n2_ n3_;clear hb hbox hg)|((with_reducible refine gate_callee (f:=55) rfl ?_);refine goesL_ (some 8) rfl rfl Try.func55 (by kernel_rfl) rfl #[.string a0] rfl (by (try simp only [List.map_toArray,List.map_cons,List.map_nil]);first|done|rfl|(simp only [List.length_drop,List.length_take];rfl)) ?_;(with_reducible refine (impl_tidied.calls k a0 t214 t217 true _ A2.out).mono ?_);rintro e w17 ⟨v215,v218,rfl,ho0,ho1,hb⟩;refine ⟨_,rfl,?_⟩;have n0_:=Aside0.mk (Kd.R_lower ho0 (yQ (by repeat (first|(with_reducible first|exact HB.out|apply yA|apply yB|apply yC|refine yD ?_ GE213.out)|exact HB.out))));have n1_:=Aside0.mk (Kd.R_lower ho1 (yQ (by repeat (first|(with_reducible first|exact HB.out|apply yA|apply yB|apply yC|refine yD ?_ GE213.out)|exact HB.out))));have n2_:=Aside0.mk (blk_below (g:=gb213) (o:=.cells #[.slice none 0 0,.slice none 0 0] 43 (0,0)) (by (with_reducible repeat (first|refine yE ?_ _|refine yF ?_|refine yG ?_ _));exact BK213.out) hb);have n3_:=Aside0.mk (yP (by repeat (first|(with_reducible first|exact HB.out|apply yA|apply yB|apply yC|refine yD ?_ GE213.out)|exact HB.out)) hb);clear BK213;clear HB;have HO216:=n0_;have HO219:=n1_;have BK213:=n2_;have HB:=n3_;clear n0_ n1_ n2_ n3_;(try clear hb);(try clear hb2);(try clear hk);(try clear hi);(try clear ho0);(try clear ho1))|((with_reducible refine gate_dst (N:=4) rfl ?_);(try (refine gate_guard (by rfl) ?_;dsimp only));refine box_event ?hg (N:=4) ?hd (cs:=#[.slice none 0 0,.slice none 0 0]) (t:=43) ?hr ?_;(case hd=>rfl);(case hg=>rfl);(case hr=>first|(go_simp;done)|(go_simp;rfl));intro gb221 hg w18 hbox hb;have n0_:=Aside0.mk (Kd.R_below (by (with_reducible repeat (first|apply yH|apply yI|apply yJ));exact HO216.out) hb);have n1_:=Aside0.mk (Kd.R_below (by (with_reducible repeat (first|apply yH|apply yI|apply yJ));exact HO219.out) hb);have n2_:=Aside0.mk (blk_below (g:=gb213) (o:=.cells #[.slice none 0 0,.slice none 0 0] 43 (0,0)) (by (with_reducible repeat (first|refine yE ?_ _|refine yF ?_|refine yG ?_ _));exact BK213.out) hb);have n3_:=Aside0.mk (yP (by repeat (first|(with_reducible first|exact HB.out|apply yA|apply yB|apply yC|refine yD ?_ GE213.out)|exact HB.out)) hb);have n4_:=Aside0.mk (hbox);have n5_:=Aside0.mk ((by rw [hg];exact (yQ (by repeat (first|(with_reducible first|exact HB.out|apply yA|apply yB|apply yC|refine yD ?_ GE213.out)|exact HB.out))):w.heap.size≤gb221));have n6_:=Aside0.mk ((by rw [hg];exact (yQ (by repeat (first|(with_reducible first|exact HB.out|apply yA|apply yB|apply yC|refine yD ?_ GE213.out)|exact HB.out))):w.heap.size≤gb221));have n7_:=Aside0.mk ((by rw [hg];exact Nat.ne_of_lt (blk_lt (g:=gb213) (o:=.cells #[.slice none 0 0,.slice none 0 0] 43 (0,0)) (by (with_reducible repeat (first|refine yE ?_ _|refine yF ?_|refine yG ?_ _));exact BK213.out)):gb213≠gb221));have n8_:=Aside0.mk ((by rw [hg];exact Nat.ne_of_gt (blk_lt (g:=gb213) (o:=.cells #[.slice none 0 0,.slice none 0 0] 43 (0,0)) (by (with_reducible repeat (first|refine yE ?_ _|refine yF ?_|refine yG ?_ _));exact BK213.out)):gb221≠gb213));clear HO216;clear HO219;clear BK213;clear HB;have HO216:=n0_;have HO219:=n1_;have BK213:=n2_;have HB:=n3_;have BK221:=n4_;have GW221:=n5_;have GE221:=n6_;have NB213_221:=n7_;have NB221_213:=n8_;clear n0_ n1_ n2_ n3_ n4_ n5_ n6_ n7_ n8_;clear hb hbox hg;obtain ⟨Ao19,co19,eo19⟩:=Kd.R_slice HO216.out;subst eo19;have hnb20:=NB221_213.out;have hnc20:=NB213_221.out;have hcz21_0:w18.cell? ⟨gb221,0,none⟩=some (.slice none 0 0):=(blk_cell BK221.out 0).trans rfl;have hcz21_1:w18.cell? ⟨gb221,1,none⟩=some (.slice none 0 0):=(blk_cell BK221.out 1).trans rfl;have hfz21_0:=blk_frozen BK221.out 0;have hfz21_1:=blk_frozen BK221.out 1;obtain ⟨Ao22,co22,eo22⟩:=Kd.R_slice HO219.out;subst eo22))
   have n0_:Aside0 (Kd.R Kd.bool 4 ((w18.setCell ⟨gb221,0,none⟩ (.slice Ao19 t214.length co19)).setCell ⟨gb221,1,none⟩ (.slice Ao22 t217.length co22)) w.heap.size (fun k_=>some k_≠(.slice Ao22 t217.length co22:Value).ownBlock) (.slice Ao19 t214.length co19) t214):=⟨by (with_reducible repeat (first|apply yH|apply yI|apply yJ));exact Kd.R_mono (Kd.R_far (p:=⟨gb221,1,none⟩) (Kd.R_far (p:=⟨gb221,0,none⟩) (Kd.R_types HO216.out BK221.out (by decide)) (fun _ hk=>hk.2) (.slice Ao19 t214.length co19)) (fun _ hk=>hk.2) (.slice Ao22 t217.length co22)) (fun _ hk=>hk.1)⟩
   have n1_:Aside0 (Kd.R Kd.bool 4 ((w18.setCell ⟨gb221,0,none⟩ (.slice Ao19 t214.length co19)).setCell ⟨gb221,1,none⟩ (.slice Ao22 t217.length co22)) w.heap.size (fun k_=>some k_≠(.slice Ao19 t214.length co19:Value).ownBlock) (.slice Ao22 t217.length co22) t217):=⟨by (with_reducible repeat (first|apply yH|apply yI|apply yJ));exact Kd.R_mono (Kd.R_far (p:=⟨gb221,1,none⟩) (Kd.R_far (p:=⟨gb221,0,none⟩) (Kd.R_types HO219.out BK221.out (by decide)) (fun _ hk=>hk.2) (.slice Ao19 t214.length co19)) (fun _ hk=>hk.2) (.slice Ao22 t217.length co22)) (fun _ hk=>hk.1)⟩
   have n2_:Aside0 (((w18.setCell ⟨gb221,0,none⟩ (.slice Ao19 t214.length co19)).setCell ⟨gb221,1,none⟩ (.slice Ao22 t217.length co22)).heap[gb213]?=some (.cells #[.slice none 0 0,.slice none 0 0] 43 (0,0))):=⟨by (with_reducible repeat (first|refine yE ?_ _|refine yF ?_|refine yG ?_ _));refine blk_far ?_ NB213_221.out _;(with_reducible repeat (first|refine yE ?_ _|refine yF ?_|refine yG ?_ _));refine blk_far ?_ NB213_221.out _;(with_reducible repeat (first|refine yE ?_ _|refine yF ?_|refine yG ?_ _));exact BK213.out⟩
   have n3_:Aside0 (((w18.setCell ⟨gb221,0,none⟩ (.slice Ao19 t214.length co19)).setCell ⟨gb221,1,none⟩ (.slice Ao22 t217.length co22)).heap[gb221]?=some (.cells #[.slice Ao19 t214.length co19,.slice Ao22 t217.length co22] 43 (0,0))):=⟨by (with_reducible repeat (first|refine yE ?_ _|refine yF ?_|refine yG ?_ _));refine blk_put (cs:=#[.slice Ao19 t214.length co19,.slice none 0 0]) ?_ 1 _ rfl;(with_reducible repeat (first|refine yE ?_ _|refine yF ?_|refine yG ?_ _));refine blk_put (cs:=#[.slice none 0 0,.slice none 0 0]) ?_ 0 _ rfl;(with_reducible repeat (first|refine yE ?_ _|refine yF ?_|refine yG ?_ _));exact BK221.out⟩
   have n4_:Aside0 (Below w.heap.size w ((w18.setCell ⟨gb221,0,none⟩ (.slice Ao19 t214.length co19)).setCell ⟨gb221,1,none⟩ (.slice Ao22 t217.length co22))):=⟨by repeat (first|(with_reducible first|exact HB.out|apply yA|apply yB|apply yC|refine yD ?_ GE213.out|refine yD ?_ GE221.out)|exact HB.out)⟩
   (try clear HO216)
   (try clear HO219)
   (try clear BK213)
   (try clear BK221)
   (try clear HB)
   generalize ((w18.setCell ⟨gb221,0,none⟩ (.slice Ao19 t214.length co19)).setCell ⟨gb221,1,none⟩ (.slice Ao22 t217.length co22))=w23 at n0_ n1_ n2_ n3_ n4_ ⊢
   have HO216:=n0_
   have HO219:=n1_
   have BK213:=n2_
   have BK221:=n3_
   have HB:=n4_
   clear n0_ n1_ n2_ n3_ n4_
   have n0_:=Aside0.mk (yJ HO216.out)
   have n1_:=Aside0.mk (yJ HO219.out)
   have n2_:=Aside0.mk (yF BK213.out)
   have n3_:=Aside0.mk (yF BK221.out)
   have n4_:=Aside0.mk (yC HB.out)
   clear HO216
   clear HO219
   clear BK213
   clear BK221
   clear HB
   have HO216:=n0_
   have HO219:=n1_
   have BK213:=n2_
   have BK221:=n3_
   have HB:=n4_
   clear n0_ n1_ n2_ n3_ n4_
   refine start_ (n:=16) (S:=fun w'=>w'.cell? ⟨gb221,0,none⟩=some (.slice Ao19 t214.length co19)∧w'.cell? ⟨gb221,1,none⟩=some (.slice Ao22 t217.length co22)) (ds:=[]) #[false,false,false,false,false,false,false,false,false,false,false,false,false,false,false,false] (by kernel_rfl) rfl rfl ⟨(blk_cell BK221.out 0).trans rfl,(blk_cell BK221.out 1).trans rfl⟩ (fun hHeld=>?_);refine with_tabW impl_small.tab2 impl_small.bits2 (fun HT_ HW_=>?_)
   generalize w23.drew=w24 at HO216 HO219 BK213 BK221 HB hHeld ⊢
   refine pure_ (i:=1) (N:=some 12) (v:=?_) (a':=?_) #[false,true,false,false,false,false,false,false,false,false,false,false,false,false,false,false] rfl rfl (any_of HT_.out (by kernel_rfl)) (fun _ _ _ h=>h) (Or.inl ⟨by rfl,?_⟩) ?_ ?_
   rotate_left
   ·intro w'
    go_simp
    with_reducible rfl
   rotate_left
   ·simp only [Act.put,yK,yL,yM,i64_w,i32_w]
    rfl
   refine pure_ (i:=2) (N:=some 13) (v:=?_) (a':=?_) #[false,true,true,false,false,false,false,false,false,false,false,false,false,false,false,false] rfl rfl (any_of HT_.out (by kernel_rfl)) (fun _ _ _ h=>h) (Or.inl ⟨by rfl,?_⟩) ?_ ?_
   rotate_left
   ·intro w'
    go_simp
    with_reducible rfl
   rotate_left
   ·simp only [Act.put,yK,yL,yM,i64_w,i32_w]
    rfl
   refine pure_ (i:=3) (N:=some 14) (v:=?_) (a':=?_) #[false,true,true,true,false,false,false,false,false,false,false,false,false,false,false,false] rfl rfl (any_of HT_.out (by kernel_rfl)) (fun _ _ _ h=>h) (Or.inl ⟨by rfl,?_⟩) ?_ ?_
   rotate_left
   ·intro w'
    go_simp
    with_reducible rfl
   rotate_left
   ·simp only [Act.put,yK,yL,yM,i64_w,i32_w]
    rfl
   refine take_ (i:=0) (N:=some 11) (v:=?_) (a':=?_) #[true,true,true,true,false,false,false,false,false,false,false,false,false,false,false,false] rfl rfl (take_ofW HT_.out HW_.out (by kernel_rfl)) (fun _ _ _ h=>h) (Or.inl ⟨by rfl,?_⟩) hHeld ?_ ?_
   rotate_left
   ·rintro w' ⟨s0,s1⟩
    go_simp
    with_reducible rfl
   rotate_left
   ·simp only [Act.put,yK,yL,yM,i64_w,i32_w]
    rfl
   refine take_ (i:=4) (N:=some 15) (v:=?_) (a':=?_) #[true,true,true,true,true,false,false,false,false,false,false,false,false,false,false,false] rfl rfl (take_ofW HT_.out HW_.out (by kernel_rfl)) (fun _ _ _ h=>h) (Or.inl ⟨by rfl,?_⟩) hHeld ?_ ?_
   rotate_left
   ·rintro w' ⟨s0,s1⟩
    go_simp
    with_reducible rfl
   rotate_left
   ·simp only [Act.put,yK,yL,yM,i64_w,i32_w]
    rfl
   refine pure_ (i:=5) (N:=some 16) (v:=?_) (a':=?_) #[true,true,true,true,true,true,false,false,false,false,false,false,false,false,false,false] rfl rfl (any_of HT_.out (by kernel_rfl)) (fun _ _ _ h=>h) (Or.inl ⟨by rfl,?_⟩) ?_ ?_
   rotate_left
   ·intro w'
    go_simp
    with_reducible rfl
   rotate_left
   ·simp only [Act.put,yK,yL,yM,i64_w,i32_w]
    rfl
   refine pure_ (i:=6) (N:=some 17) (v:=?_) (a':=?_) #[true,true,true,true,true,true,true,false,false,false,false,false,false,false,false,false] rfl rfl (any_of HT_.out (by kernel_rfl)) (fun _ _ _ h=>h) (Or.inl ⟨by rfl,?_⟩) ?_ ?_
   rotate_left
   ·intro w'
    go_simp
    with_reducible rfl
   rotate_left
   ·simp only [Act.put,yK,yL,yM,i64_w,i32_w]
    rfl
   refine pure_ (i:=7) (N:=some 18) (v:=?_) (a':=?_) #[true,true,true,true,true,true,true,true,false,false,false,false,false,false,false,false] rfl rfl (any_of HT_.out (by kernel_rfl)) (fun _ _ _ h=>h) (Or.inl ⟨by rfl,?_⟩) ?_ ?_
   rotate_left
   ·intro w'
    go_simp
    with_reducible rfl
   rotate_left
   ·simp only [Act.put,yK,yL,yM,i64_w,i32_w]
    rfl
   refine pure_ (i:=8) (N:=some 19) (v:=?_) (a':=?_) #[true,true,true,true,true,true,true,true,true,false,false,false,false,false,false,false] rfl rfl (any_of HT_.out (by kernel_rfl)) (fun _ _ _ h=>h) (Or.inl ⟨by rfl,?_⟩) ?_ ?_
   rotate_left
   ·intro w'
    go_simp
    with_reducible rfl
   rotate_left
   ·simp only [Act.put,yK,yL,yM,i64_w,i32_w]
    rfl
   refine pure_ (i:=9) (N:=some 20) (v:=undef) (a':=?_) #[true,true,true,true,true,true,true,true,true,true,false,false,false,false,false,false] rfl rfl (any_of HT_.out (by kernel_rfl)) (fun _ _ _ h=>h) (Or.inr ⟨by rfl,rfl⟩) ?_ ?_
   rotate_left
   ·simp only [Act.put,yK,yL,yM,i64_w,i32_w]
    rfl
   refine pure_ (i:=10) (N:=some 21) (v:=undef) (a':=?_) #[true,true,true,true,true,true,true,true,true,true,true,false,false,false,false,false] rfl rfl (any_of HT_.out (by kernel_rfl)) (fun _ _ _ h=>h) (Or.inr ⟨by rfl,rfl⟩) ?_ ?_
   rotate_left
   ·simp only [Act.put,yK,yL,yM,i64_w,i32_w]
    rfl
   refine pure_ (i:=11) (N:=some 22) (v:=undef) (a':=?_) #[true,true,true,true,true,true,true,true,true,true,true,true,false,false,false,false] rfl rfl (any_of HT_.out (by kernel_rfl)) (fun _ _ _ h=>h) (Or.inr ⟨by rfl,rfl⟩) ?_ ?_
   rotate_left
   ·simp only [Act.put,yK,yL,yM,i64_w,i32_w]
    rfl
   refine pure_ (i:=12) (N:=some 23) (v:=undef) (a':=?_) #[true,true,true,true,true,true,true,true,true,true,true,true,true,false,false,false] rfl rfl (any_of HT_.out (by kernel_rfl)) (fun _ _ _ h=>h) (Or.inr ⟨by rfl,rfl⟩) ?_ ?_
   rotate_left
   ·simp only [Act.put,yK,yL,yM,i64_w,i32_w]
    rfl
   refine pure_ (i:=13) (N:=some 24) (v:=?_) (a':=?_) #[true,true,true,true,true,true,true,true,true,true,true,true,true,true,false,false] rfl rfl (any_of HT_.out (by kernel_rfl)) (fun _ _ _ h=>h) (Or.inl ⟨by rfl,?_⟩) ?_ ?_
   rotate_left
   ·intro w'
    go_simp
    with_reducible rfl
   rotate_left
   ·simp only [Act.put,yK,yL,yM,i64_w,i32_w]
    rfl
   refine one_ (i:=14) (N:=none) #[true,true,true,true,true,true,true,true,true,true,true,true,true,true,true,false] rfl rfl (one_of HT_.out (by kernel_rfl)) (by decide) (fun K hK=>?_)
   have hs25:w24.cell? ⟨gb213,0,none⟩=some (.slice none 0 0):=(blk_cell BK213.out 0).trans rfl
   have hfs25:=blk_frozen BK213.out 0
   have hns25_1:=NB221_213.out
   have hms25_1:=NB213_221.out
   have hs26:w24.cell? ⟨gb213,1,none⟩=some (.slice none 0 0):=(blk_cell BK213.out 1).trans rfl
   have hfs26:=blk_frozen BK213.out 1
   have hns26_1:=NB221_213.out
   have hms26_1:=NB213_221.out
   refine skip_ (w1:=?_) (by rfl) rfl ?_ ?_
   rotate_left
   ·go_simp
    rfl
   refine hK.out _ _ ⟨((cell_far (p:=⟨gb213,_,none⟩) NB221_213.out _).trans (((cell_far (p:=⟨gb213,_,none⟩) NB221_213.out _).trans (hHeld.1)))),((cell_far (p:=⟨gb213,_,none⟩) NB221_213.out _).trans (((cell_far (p:=⟨gb213,_,none⟩) NB221_213.out _).trans (hHeld.2))))⟩ (fun hHeld=>?_)
   clear hK K
   refine pure_ (i:=15) (N:=some 3) (v:=?_) (a':=?_) #[true,true,true,true,true,true,true,true,true,true,true,true,true,true,true,true] rfl rfl (any_of HT_.out (by kernel_rfl)) (fun _ _ _ h=>h) (Or.inl ⟨by rfl,?_⟩) ?_ ?_
   rotate_left
   ·intro w'
    go_simp
    with_reducible rfl
   rotate_left
   ·simp only [Act.put,yK,yL,yM,i64_w,i32_w]
    rfl
   refine done_ (done_of HT_.out (by kernel_rfl)) ?_
   try go_wp2
   refine bodyPost_ret (results_ct rfl _ _ gb213 43 #[.slice Ao19 t214.length co19,.slice Ao22 t217.length co22] (0,0) _ rfl (by (with_reducible repeat (first|refine yE ?_ _|refine yF ?_|refine yG ?_ _));refine blk_put (cs:=#[.slice Ao19 t214.length co19,.slice none 0 0]) ?_ 1 _ rfl;(with_reducible repeat (first|refine yE ?_ _|refine yF ?_|refine yG ?_ _));refine blk_put (cs:=#[.slice none 0 0,.slice none 0 0]) ?_ 0 _ rfl;(with_reducible repeat (first|refine yE ?_ _|refine yF ?_|refine yG ?_ _));exact BK213.out) Try.underlying43 rfl (by kernel_rfl)) rfl ?_
   exact ⟨_,_,by first|rfl|(simp [errW_none,errW_some]<;>rfl)|(simp [*,errW_none,errW_some]<;>rfl)|(simp [errW_none,errW_some];exact ⟨rfl,rfl⟩),by (with_reducible repeat (first|apply yH|apply yI|apply yJ));exact Kd.R_mono (Kd.R_far (p:=⟨gb213,1,none⟩) (Kd.R_far (p:=⟨gb213,0,none⟩) (Kd.R_types HO216.out BK213.out (by decide)) (fun _ hk=>hk.2) (.slice Ao19 t214.length co19)) (fun _ hk=>hk.2) (.slice Ao22 t217.length co22)) (fun _ hk=>hk.1),by (with_reducible repeat (first|apply yH|apply yI|apply yJ));exact Kd.R_mono (Kd.R_far (p:=⟨gb213,1,none⟩) (Kd.R_far (p:=⟨gb213,0,none⟩) (Kd.R_types HO219.out BK213.out (by decide)) (fun _ hk=>hk.2) (.slice Ao19 t214.length co19)) (fun _ hk=>hk.2) (.slice Ao22 t217.length co22)) (fun _ hk=>hk.1),by repeat (first|(with_reducible first|exact HB.out|apply yA|apply yB|apply yC|refine yD ?_ GE213.out|refine yD ?_ GE221.out)|exact HB.out)⟩
 ·replace c3:=Bool.eq_false_iff.mpr c3
  subst c3
  have H1:(some (t214,t217,false))=some (r1,r2,r3):=by rw [if_neg (show ¬ (false=true) by decide)] at H;exact H
  clear H
  have H:=H1
  clear H1
  simp only [Option.some.injEq,Prod.mk.injEq] at H
  obtain ⟨rfl,rfl,rfl⟩:=H
  go_enter Try.func29,Try.ntmps29
  try go_wp2_with (first|((with_reducible refine gate_dst (N:=2) rfl ?_);(try (refine gate_guard (by rfl) ?_;dsimp only));refine box_event ?hg (N:=2) ?hd (cs:=#[.slice none 0 0,.slice none 0 0]) (t:=43) ?hr ?_;(case hd=>rfl);(case hg=>rfl);(case hr=>first|(go_simp;done)|(go_simp;rfl));intro gb213 hg w27 hbox hb;have n0_:=Aside0.mk (yP (by repeat (first|(with_reducible first|exact HB.out|apply yA|apply yB|apply yC)|exact HB.out)) hb);have n1_:=Aside0.mk (hbox);have n2_:=Aside0.mk ((by rw [hg];exact (yQ (by repeat (first|(with_reducible first|exact HB.out|apply yA|apply yB|apply yC)|exact HB.out))):w.heap.size≤gb213));have n3_:=Aside0.mk ((by rw [hg];exact (yQ (by repeat (first|(with_reducible first|exact HB.out|apply yA|apply yB|apply yC)|exact HB.out))):w.heap.size≤gb213));clear HB;have HB:=n0_;have BK213:=n1_;have GW213:=n2_;have GE213:=n3_;clear n0_ n1_ n2_ n3_;clear hb hbox hg)|((with_reducible refine gate_callee (f:=55) rfl ?_);refine goesL_ (some 8) rfl rfl Try.func55 (by kernel_rfl) rfl #[.string a0] rfl (by (try simp only [List.map_toArray,List.map_cons,List.map_nil]);first|done|rfl|(simp only [List.length_drop,List.length_take];rfl)) ?_;(with_reducible refine (impl_tidied.calls k a0 t214 t217 false _ A2.out).mono ?_);rintro e w28 ⟨v215,v218,rfl,ho0,ho1,hb⟩;refine ⟨_,rfl,?_⟩;have n0_:=Aside0.mk (Kd.R_lower ho0 (yQ (by repeat (first|(with_reducible first|exact HB.out|apply yA|apply yB|apply yC|refine yD ?_ GE213.out)|exact HB.out))));have n1_:=Aside0.mk (Kd.R_lower ho1 (yQ (by repeat (first|(with_reducible first|exact HB.out|apply yA|apply yB|apply yC|refine yD ?_ GE213.out)|exact HB.out))));have n2_:=Aside0.mk (blk_below (g:=gb213) (o:=.cells #[.slice none 0 0,.slice none 0 0] 43 (0,0)) (by (with_reducible repeat (first|refine yE ?_ _|refine yF ?_|refine yG ?_ _));exact BK213.out) hb);have n3_:=Aside0.mk (yP (by repeat (first|(with_reducible first|exact HB.out|apply yA|apply yB|apply yC|refine yD ?_ GE213.out)|exact HB.out)) hb);clear BK213;clear HB;have HO216:=n0_;have HO219:=n1_;have BK213:=n2_;have HB:=n3_;clear n0_ n1_ n2_ n3_;(try clear hb);(try clear hb2);(try clear hk);(try clear hi);(try clear ho0);(try clear ho1))|((with_reducible refine gate_dst (N:=4) rfl ?_);(try (refine gate_guard (by rfl) ?_;dsimp only));refine box_event ?hg (N:=4) ?hd (cs:=#[.slice none 0 0,.slice none 0 0]) (t:=43) ?hr ?_;(case hd=>rfl);(case hg=>rfl);(case hr=>first|(go_simp;done)|(go_simp;rfl));intro gb221 hg w29 hbox hb;have n0_:=Aside0.mk (Kd.R_below (by (with_reducible repeat (first|apply yH|apply yI|apply yJ));exact HO216.out) hb);have n1_:=Aside0.mk (Kd.R_below (by (with_reducible repeat (first|apply yH|apply yI|apply yJ));exact HO219.out) hb);have n2_:=Aside0.mk (blk_below (g:=gb213) (o:=.cells #[.slice none 0 0,.slice none 0 0] 43 (0,0)) (by (with_reducible repeat (first|refine yE ?_ _|refine yF ?_|refine yG ?_ _));exact BK213.out) hb);have n3_:=Aside0.mk (yP (by repeat (first|(with_reducible first|exact HB.out|apply yA|apply yB|apply yC|refine yD ?_ GE213.out)|exact HB.out)) hb);have n4_:=Aside0.mk (hbox);have n5_:=Aside0.mk ((by rw [hg];exact (yQ (by repeat (first|(with_reducible first|exact HB.out|apply yA|apply yB|apply yC|refine yD ?_ GE213.out)|exact HB.out))):w.heap.size≤gb221));have n6_:=Aside0.mk ((by rw [hg];exact (yQ (by repeat (first|(with_reducible first|exact HB.out|apply yA|apply yB|apply yC|refine yD ?_ GE213.out)|exact HB.out))):w.heap.size≤gb221));have n7_:=Aside0.mk ((by rw [hg];exact Nat.ne_of_lt (blk_lt (g:=gb213) (o:=.cells #[.slice none 0 0,.slice none 0 0] 43 (0,0)) (by (with_reducible repeat (first|refine yE ?_ _|refine yF ?_|refine yG ?_ _));exact BK213.out)):gb213≠gb221));have n8_:=Aside0.mk ((by rw [hg];exact Nat.ne_of_gt (blk_lt (g:=gb213) (o:=.cells #[.slice none 0 0,.slice none 0 0] 43 (0,0)) (by (with_reducible repeat (first|refine yE ?_ _|refine yF ?_|refine yG ?_ _));exact BK213.out)):gb221≠gb213));clear HO216;clear HO219;clear BK213;clear HB;have HO216:=n0_;have HO219:=n1_;have BK213:=n2_;have HB:=n3_;have BK221:=n4_;have GW221:=n5_;have GE221:=n6_;have NB213_221:=n7_;have NB221_213:=n8_;clear n0_ n1_ n2_ n3_ n4_ n5_ n6_ n7_ n8_;clear hb hbox hg;obtain ⟨Ao30,co30,eo30⟩:=Kd.R_slice HO216.out;subst eo30;have hnb31:=NB221_213.out;have hnc31:=NB213_221.out;have hcz32_0:w29.cell? ⟨gb221,0,none⟩=some (.slice none 0 0):=(blk_cell BK221.out 0).trans rfl;have hcz32_1:w29.cell? ⟨gb221,1,none⟩=some (.slice none 0 0):=(blk_cell BK221.out 1).trans rfl;have hfz32_0:=blk_frozen BK221.out 0;have hfz32_1:=blk_frozen BK221.out 1;obtain ⟨Ao33,co33,eo33⟩:=Kd.R_slice HO219.out;subst eo33))
  have n0_:Aside0 (Kd.R Kd.bool 4 ((w29.setCell ⟨gb221,0,none⟩ (.slice Ao30 t214.length co30)).setCell ⟨gb221,1,none⟩ (.slice Ao33 t217.length co33)) w.heap.size (fun k_=>some k_≠(.slice Ao33 t217.length co33:Value).ownBlock) (.slice Ao30 t214.length co30) t214):=⟨by (with_reducible repeat (first|apply yH|apply yI|apply yJ));exact Kd.R_mono (Kd.R_far (p:=⟨gb221,1,none⟩) (Kd.R_far (p:=⟨gb221,0,none⟩) (Kd.R_types HO216.out BK221.out (by decide)) (fun _ hk=>hk.2) (.slice Ao30 t214.length co30)) (fun _ hk=>hk.2) (.slice Ao33 t217.length co33)) (fun _ hk=>hk.1)⟩
  have n1_:Aside0 (Kd.R Kd.bool 4 ((w29.setCell ⟨gb221,0,none⟩ (.slice Ao30 t214.length co30)).setCell ⟨gb221,1,none⟩ (.slice Ao33 t217.length co33)) w.heap.size (fun k_=>some k_≠(.slice Ao30 t214.length co30:Value).ownBlock) (.slice Ao33 t217.length co33) t217):=⟨by (with_reducible repeat (first|apply yH|apply yI|apply yJ));exact Kd.R_mono (Kd.R_far (p:=⟨gb221,1,none⟩) (Kd.R_far (p:=⟨gb221,0,none⟩) (Kd.R_types HO219.out BK221.out (by decide)) (fun _ hk=>hk.2) (.slice Ao30 t214.length co30)) (fun _ hk=>hk.2) (.slice Ao33 t217.length co33)) (fun _ hk=>hk.1)⟩
  have n2_:Aside0 (((w29.setCell ⟨gb221,0,none⟩ (.slice Ao30 t214.length co30)).setCell ⟨gb221,1,none⟩ (.slice Ao33 t217.length co33)).heap[gb213]?=some (.cells #[.slice none 0 0,.slice none 0 0] 43 (0,0))):=⟨by (with_reducible repeat (first|refine yE ?_ _|refine yF ?_|refine yG ?_ _));refine blk_far ?_ NB213_221.out _;(with_reducible repeat (first|refine yE ?_ _|refine yF ?_|refine yG ?_ _));refine blk_far ?_ NB213_221.out _;(with_reducible repeat (first|refine yE ?_ _|refine yF ?_|refine yG ?_ _));exact BK213.out⟩
  have n3_:Aside0 (((w29.setCell ⟨gb221,0,none⟩ (.slice Ao30 t214.length co30)).setCell ⟨gb221,1,none⟩ (.slice Ao33 t217.length co33)).heap[gb221]?=some (.cells #[.slice Ao30 t214.length co30,.slice Ao33 t217.length co33] 43 (0,0))):=⟨by (with_reducible repeat (first|refine yE ?_ _|refine yF ?_|refine yG ?_ _));refine blk_put (cs:=#[.slice Ao30 t214.length co30,.slice none 0 0]) ?_ 1 _ rfl;(with_reducible repeat (first|refine yE ?_ _|refine yF ?_|refine yG ?_ _));refine blk_put (cs:=#[.slice none 0 0,.slice none 0 0]) ?_ 0 _ rfl;(with_reducible repeat (first|refine yE ?_ _|refine yF ?_|refine yG ?_ _));exact BK221.out⟩
  have n4_:Aside0 (Below w.heap.size w ((w29.setCell ⟨gb221,0,none⟩ (.slice Ao30 t214.length co30)).setCell ⟨gb221,1,none⟩ (.slice Ao33 t217.length co33))):=⟨by repeat (first|(with_reducible first|exact HB.out|apply yA|apply yB|apply yC|refine yD ?_ GE213.out|refine yD ?_ GE221.out)|exact HB.out)⟩
  (try clear HO216)
  (try clear HO219)
  (try clear BK213)
  (try clear BK221)
  (try clear HB)
  generalize ((w29.setCell ⟨gb221,0,none⟩ (.slice Ao30 t214.length co30)).setCell ⟨gb221,1,none⟩ (.slice Ao33 t217.length co33))=w34 at n0_ n1_ n2_ n3_ n4_ ⊢
  have HO216:=n0_
  have HO219:=n1_
  have BK213:=n2_
  have BK221:=n3_
  have HB:=n4_
  clear n0_ n1_ n2_ n3_ n4_
  have n0_:=Aside0.mk (yJ HO216.out)
  have n1_:=Aside0.mk (yJ HO219.out)
  have n2_:=Aside0.mk (yF BK213.out)
  have n3_:=Aside0.mk (yF BK221.out)
  have n4_:=Aside0.mk (yC HB.out)
  clear HO216
  clear HO219
  clear BK213
  clear BK221
  clear HB
  have HO216:=n0_
  have HO219:=n1_
  have BK213:=n2_
  have BK221:=n3_
  have HB:=n4_
  clear n0_ n1_ n2_ n3_ n4_
  refine start_ (n:=16) (S:=fun w'=>w'.cell? ⟨gb221,0,none⟩=some (.slice Ao30 t214.length co30)∧w'.cell? ⟨gb221,1,none⟩=some (.slice Ao33 t217.length co33)) (ds:=[]) #[false,false,false,false,false,false,false,false,false,false,false,false,false,false,false,false] (by kernel_rfl) rfl rfl ⟨(blk_cell BK221.out 0).trans rfl,(blk_cell BK221.out 1).trans rfl⟩ (fun hHeld=>?_);refine with_tabW impl_small.tab2 impl_small.bits2 (fun HT_ HW_=>?_)
  generalize w34.drew=w35 at HO216 HO219 BK213 BK221 HB hHeld ⊢
  refine pure_ (i:=1) (N:=some 12) (v:=?_) (a':=?_) #[false,true,false,false,false,false,false,false,false,false,false,false,false,false,false,false] rfl rfl (any_of HT_.out (by kernel_rfl)) (fun _ _ _ h=>h) (Or.inl ⟨by rfl,?_⟩) ?_ ?_
  rotate_left
  ·intro w'
   go_simp
   with_reducible rfl
  rotate_left
  ·simp only [Act.put,yK,yL,yM,i64_w,i32_w]
   rfl
  refine pure_ (i:=2) (N:=some 13) (v:=?_) (a':=?_) #[false,true,true,false,false,false,false,false,false,false,false,false,false,false,false,false] rfl rfl (any_of HT_.out (by kernel_rfl)) (fun _ _ _ h=>h) (Or.inl ⟨by rfl,?_⟩) ?_ ?_
  rotate_left
  ·intro w'
   go_simp
   with_reducible rfl
  rotate_left
  ·simp only [Act.put,yK,yL,yM,i64_w,i32_w]
   rfl
  refine pure_ (i:=3) (N:=some 14) (v:=undef) (a':=?_) #[false,true,true,true,false,false,false,false,false,false,false,false,false,false,false,false] rfl rfl (any_of HT_.out (by kernel_rfl)) (fun _ _ _ h=>h) (Or.inr ⟨by rfl,rfl⟩) ?_ ?_
  rotate_left
  ·simp only [Act.put,yK,yL,yM,i64_w,i32_w]
   rfl
  refine pure_ (i:=4) (N:=some 15) (v:=undef) (a':=?_) #[false,true,true,true,true,false,false,false,false,false,false,false,false,false,false,false] rfl rfl (any_of HT_.out (by kernel_rfl)) (fun _ _ _ h=>h) (Or.inr ⟨by rfl,rfl⟩) ?_ ?_
  rotate_left
  ·simp only [Act.put,yK,yL,yM,i64_w,i32_w]
   rfl
  refine pure_ (i:=5) (N:=some 16) (v:=undef) (a':=?_) #[false,true,true,true,true,true,false,false,false,false,false,false,false,false,false,false] rfl rfl (any_of HT_.out (by kernel_rfl)) (fun _ _ _ h=>h) (Or.inr ⟨by rfl,rfl⟩) ?_ ?_
  rotate_left
  ·simp only [Act.put,yK,yL,yM,i64_w,i32_w]
   rfl
  refine pure_ (i:=6) (N:=some 17) (v:=undef) (a':=?_) #[false,true,true,true,true,true,true,false,false,false,false,false,false,false,false,false] rfl rfl (any_of HT_.out (by kernel_rfl)) (fun _ _ _ h=>h) (Or.inr ⟨by rfl,rfl⟩) ?_ ?_
  rotate_left
  ·simp only [Act.put,yK,yL,yM,i64_w,i32_w]
   rfl
  refine pure_ (i:=7) (N:=some 18) (v:=?_) (a':=?_) #[false,true,true,true,true,true,true,true,false,false,false,false,false,false,false,false] rfl rfl (any_of HT_.out (by kernel_rfl)) (fun _ _ _ h=>h) (Or.inl ⟨by rfl,?_⟩) ?_ ?_
  rotate_left
  ·intro w'
   go_simp
   with_reducible rfl
  rotate_left
  ·simp only [Act.put,yK,yL,yM,i64_w,i32_w]
   rfl
  refine pure_ (i:=8) (N:=some 19) (v:=?_) (a':=?_) #[false,true,true,true,true,true,true,true,true,false,false,false,false,false,false,false] rfl rfl (any_of HT_.out (by kernel_rfl)) (fun _ _ _ h=>h) (Or.inl ⟨by rfl,?_⟩) ?_ ?_
  rotate_left
  ·intro w'
   go_simp
   with_reducible rfl
  rotate_left
  ·simp only [Act.put,yK,yL,yM,i64_w,i32_w]
   rfl
  refine pure_ (i:=9) (N:=some 20) (v:=undef) (a':=?_) #[false,true,true,true,true,true,true,true,true,true,false,false,false,false,false,false] rfl rfl (any_of HT_.out (by kernel_rfl)) (fun _ _ _ h=>h) (Or.inr ⟨by rfl,rfl⟩) ?_ ?_
  rotate_left
  ·simp only [Act.put,yK,yL,yM,i64_w,i32_w]
   rfl
  refine pure_ (i:=10) (N:=some 21) (v:=undef) (a':=?_) #[false,true,true,true,true,true,true,true,true,true,true,false,false,false,false,false] rfl rfl (any_of HT_.out (by kernel_rfl)) (fun _ _ _ h=>h) (Or.inr ⟨by rfl,rfl⟩) ?_ ?_
  rotate_left
  ·simp only [Act.put,yK,yL,yM,i64_w,i32_w]
   rfl
  refine pure_ (i:=11) (N:=some 22) (v:=undef) (a':=?_) #[false,true,true,true,true,true,true,true,true,true,true,true,false,false,false,false] rfl rfl (any_of HT_.out (by kernel_rfl)) (fun _ _ _ h=>h) (Or.inr ⟨by rfl,rfl⟩) ?_ ?_
  rotate_left
  ·simp only [Act.put,yK,yL,yM,i64_w,i32_w]
   rfl
  refine pure_ (i:=12) (N:=some 23) (v:=undef) (a':=?_) #[false,true,true,true,true,true,true,true,true,true,true,true,true,false,false,false] rfl rfl (any_of HT_.out (by kernel_rfl)) (fun _ _ _ h=>h) (Or.inr ⟨by rfl,rfl⟩) ?_ ?_
  rotate_left
  ·simp only [Act.put,yK,yL,yM,i64_w,i32_w]
   rfl
  refine pure_ (i:=13) (N:=some 24) (v:=?_) (a':=?_) #[false,true,true,true,true,true,true,true,true,true,true,true,true,true,false,false] rfl rfl (any_of HT_.out (by kernel_rfl)) (fun _ _ _ h=>h) (Or.inl ⟨by rfl,?_⟩) ?_ ?_
  rotate_left
  ·intro w'
   go_simp
   with_reducible rfl
  rotate_left
  ·simp only [Act.put,yK,yL,yM,i64_w,i32_w]
   rfl
  refine take_ (i:=0) (N:=some 11) (v:=?_) (a':=?_) #[true,true,true,true,true,true,true,true,true,true,true,true,true,true,false,false] rfl rfl (take_ofW HT_.out HW_.out (by kernel_rfl)) (fun _ _ _ h=>h) (Or.inl ⟨by rfl,?_⟩) hHeld ?_ ?_
  rotate_left
  ·rintro w' ⟨s0,s1⟩
   go_simp
   with_reducible rfl
  rotate_left
  ·simp only [Act.put,yK,yL,yM,i64_w,i32_w]
   rfl
  refine one_ (i:=14) (N:=none) #[true,true,true,true,true,true,true,true,true,true,true,true,true,true,true,false] rfl rfl (one_of HT_.out (by kernel_rfl)) (by decide) (fun K hK=>?_)
  have hs36:w35.cell? ⟨gb213,0,none⟩=some (.slice none 0 0):=(blk_cell BK213.out 0).trans rfl
  have hfs36:=blk_frozen BK213.out 0
  have hns36_1:=NB221_213.out
  have hms36_1:=NB213_221.out
  have hs37:w35.cell? ⟨gb213,1,none⟩=some (.slice none 0 0):=(blk_cell BK213.out 1).trans rfl
  have hfs37:=blk_frozen BK213.out 1
  have hns37_1:=NB221_213.out
  have hms37_1:=NB213_221.out
  refine skip_ (w1:=?_) (by rfl) rfl ?_ ?_
  rotate_left
  ·go_simp
   rfl
  refine hK.out _ _ ⟨((cell_far (p:=⟨gb213,_,none⟩) NB221_213.out _).trans (((cell_far (p:=⟨gb213,_,none⟩) NB221_213.out _).trans (hHeld.1)))),((cell_far (p:=⟨gb213,_,none⟩) NB221_213.out _).trans (((cell_far (p:=⟨gb213,_,none⟩) NB221_213.out _).trans (hHeld.2))))⟩ (fun hHeld=>?_)
  clear hK K
  refine pure_ (i:=15) (N:=some 3) (v:=?_) (a':=?_) #[true,true,true,true,true,true,true,true,true,true,true,true,true,true,true,true] rfl rfl (any_of HT_.out (by kernel_rfl)) (fun _ _ _ h=>h) (Or.inl ⟨by rfl,?_⟩) ?_ ?_
  rotate_left
  ·intro w'
   go_simp
   with_reducible rfl
  rotate_left
  ·simp only [Act.put,yK,yL,yM,i64_w,i32_w]
   rfl
  refine done_ (done_of HT_.out (by kernel_rfl)) ?_
  try go_wp2
  refine bodyPost_ret (results_ct rfl _ _ gb213 43 #[.slice Ao30 t214.length co30,.slice Ao33 t217.length co33] (0,0) _ rfl (by (with_reducible repeat (first|refine yE ?_ _|refine yF ?_|refine yG ?_ _));refine blk_put (cs:=#[.slice Ao30 t214.length co30,.slice none 0 0]) ?_ 1 _ rfl;(with_reducible repeat (first|refine yE ?_ _|refine yF ?_|refine yG ?_ _));refine blk_put (cs:=#[.slice none 0 0,.slice none 0 0]) ?_ 0 _ rfl;(with_reducible repeat (first|refine yE ?_ _|refine yF ?_|refine yG ?_ _));exact BK213.out) Try.underlying43 rfl (by kernel_rfl)) rfl ?_
  exact ⟨_,_,by first|rfl|(simp [errW_none,errW_some]<;>rfl)|(simp [*,errW_none,errW_some]<;>rfl)|(simp [errW_none,errW_some];exact ⟨rfl,rfl⟩),by (with_reducible repeat (first|apply yH|apply yI|apply yJ));exact Kd.R_mono (Kd.R_far (p:=⟨gb213,1,none⟩) (Kd.R_far (p:=⟨gb213,0,none⟩) (Kd.R_types HO216.out BK213.out (by decide)) (fun _ hk=>hk.2) (.slice Ao30 t214.length co30)) (fun _ hk=>hk.2) (.slice Ao33 t217.length co33)) (fun _ hk=>hk.1),by (with_reducible repeat (first|apply yH|apply yI|apply yJ));exact Kd.R_mono (Kd.R_far (p:=⟨gb213,1,none⟩) (Kd.R_far (p:=⟨gb213,0,none⟩) (Kd.R_types HO219.out BK213.out (by decide)) (fun _ hk=>hk.2) (.slice Ao30 t214.length co30)) (fun _ hk=>hk.2) (.slice Ao33 t217.length co33)) (fun _ hk=>hk.1),by repeat (first|(with_reducible first|exact HB.out|apply yA|apply yB|apply yC|refine yD ?_ GE213.out|refine yD ?_ GE221.out)|exact HB.out)⟩

end Go.Proofs.Yticdcfgjpopkoaa.P
