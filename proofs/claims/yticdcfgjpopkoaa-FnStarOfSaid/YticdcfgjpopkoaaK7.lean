/- What these laws reach, joined by a program of this session: contracts (written by that program over the kit's print, or by hand) and plain lemmas. -/
import Derived.Test.YticdcfgjpopkoaaK1
import Derived.Test.YticdcfgjpopkoaaK3
import Derived.Test.YticdcfgjpopkoaaK4
import Derived.Test.YticdcfgjpopkoaaK5
namespace Go.Proofs.Yticdcfgjpopkoaa.P
open Go.RowKit Go.Proofs.YticdcfgjpopkoaaW.PrintWords Go.Proofs.YticdcfgjpopkoaaW.PrintLast Go.Proofs.YticdcfgjpopkoaaW.PrintMore
attribute [local go_sem] max2_int min2_int max_two min_two max_three min_three max_four min_four   -- for this text's walks alone
set_option linter.unusedVariables false
set_option linter.unusedSimpArgs false

/-! ### impl_SetBelow: function 10 -/
mutual
def impl_SetBelow.j0:Nat → Bool → List Bool → List Bool → List Bool → List Bool → Option (Bool)
 | 0,_,_,_,_,_=>none
 | k + 1,x27,x415000,x415001,x423000,x423001=>if x27 = true then (some false) else ((impl_both.f k x415000 x415001 x423000 x423001).bind fun bt423=>(impl_SetBelow.l0 k (wrap64 (bt423.1 + bt423.2)) 0 x415000 x415001 x423000 x423001))
def impl_SetBelow.l0:Nat → Int → Int → List Bool → List Bool → List Bool → List Bool → Option (Bool)
 | 0,_,_,_,_,_,_=>none
 | k + 1,x36,x37,x415000,x415001,x423000,x423001=>if x37 < x36 then ((impl_set_has.f x415000 x415001 x37).bind fun t425=>(if t425 = true then ((impl_set_has.f x423000 x423001 x37).bind fun t426=>(if t426 = true then (impl_SetBelow.l0 k x36 (wrap64 (x37 + 1)) x415000 x415001 x423000 x423001) else (some false))) else (impl_SetBelow.l0 k x36 (wrap64 (x37 + 1)) x415000 x415001 x423000 x423001))) else (some true)
end
def impl_SetBelow.f (k:Nat) (a0:ByteArray) (a1:ByteArray):Option (Bool):=(impl_setOf.f k a0).bind fun bt407=>((impl_setOf.f k a1).bind fun bt415=>(if bt407.2.2 = true then (impl_SetBelow.j0 k (!bt415.2.2) bt407.1 bt407.2.1 bt415.1 bt415.2.1) else (impl_SetBelow.j0 k true bt407.1 bt407.2.1 bt415.1 bt415.2.1)))
theorem impl_SetBelow.mono_l:∀ k,(∀ y0 y1 y2 y3 y4,LeO (impl_SetBelow.j0 k y0 y1 y2 y3 y4) (impl_SetBelow.j0 (k + 1) y0 y1 y2 y3 y4))∧(∀ y0 y1 y2 y3 y4 y5,LeO (impl_SetBelow.l0 k y0 y1 y2 y3 y4 y5) (impl_SetBelow.l0 (k + 1) y0 y1 y2 y3 y4 y5))
 | 0=>⟨fun _ _ _ _ _ r h=>by simp [impl_SetBelow.j0] at h,fun _ _ _ _ _ _ r h=>by simp [impl_SetBelow.l0] at h⟩
 | k + 1=>by
  obtain ⟨ih0,ih1⟩:=impl_SetBelow.mono_l k
  refine ⟨?_,?_⟩
  ·intro y0 y1 y2 y3 y4
   unfold impl_SetBelow.j0
   repeat' first
   | (with_reducible exact ih0 _ _ _ _ _)
   | (with_reducible exact ih1 _ _ _ _ _ _)
   | (with_reducible exact impl_both.mono _ _ _ _ _)
   | (with_reducible exact impl_setOf.mono _ _)
   | (with_reducible exact LeO.refl _)
   | (with_reducible exact LeO.none _)
   | (with_reducible refine LeO.ite ?_ ?_)
   | (with_reducible refine LeO.bind ?_ (fun _=>?_))
   | exact ih0 _ _ _ _ _
   | exact ih1 _ _ _ _ _ _
   | exact impl_both.mono _ _ _ _ _
   | exact impl_setOf.mono _ _
   | exact LeO.none _
   | refine LeO.ite ?_ ?_
   | refine LeO.bind ?_ (fun _=>?_)
  ·intro y0 y1 y2 y3 y4 y5
   unfold impl_SetBelow.l0
   repeat' first
   | (with_reducible exact ih0 _ _ _ _ _)
   | (with_reducible exact ih1 _ _ _ _ _ _)
   | (with_reducible exact impl_both.mono _ _ _ _ _)
   | (with_reducible exact impl_setOf.mono _ _)
   | (with_reducible exact LeO.refl _)
   | (with_reducible exact LeO.none _)
   | (with_reducible refine LeO.ite ?_ ?_)
   | (with_reducible refine LeO.bind ?_ (fun _=>?_))
   | exact ih0 _ _ _ _ _
   | exact ih1 _ _ _ _ _ _
   | exact impl_both.mono _ _ _ _ _
   | exact impl_setOf.mono _ _
   | exact LeO.none _
   | refine LeO.ite ?_ ?_
   | refine LeO.bind ?_ (fun _=>?_)
theorem impl_SetBelow.mono:∀ a0 a1 k,LeO (impl_SetBelow.f k a0 a1) (impl_SetBelow.f (k + 1) a0 a1):=by
 intro a0 a1 k
 obtain ⟨ih0,ih1⟩:=impl_SetBelow.mono_l k
 unfold impl_SetBelow.f
 repeat' first
   | (with_reducible exact ih0 _ _ _ _ _)
   | (with_reducible exact ih1 _ _ _ _ _ _)
   | (with_reducible exact impl_both.mono _ _ _ _ _)
   | (with_reducible exact impl_setOf.mono _ _)
   | (with_reducible exact LeO.refl _)
   | (with_reducible exact LeO.none _)
   | (with_reducible refine LeO.ite ?_ ?_)
   | (with_reducible refine LeO.bind ?_ (fun _=>?_))
   | exact ih0 _ _ _ _ _
   | exact ih1 _ _ _ _ _ _
   | exact impl_both.mono _ _ _ _ _
   | exact impl_setOf.mono _ _
   | exact LeO.none _
   | refine LeO.ite ?_ ?_
   | refine LeO.bind ?_ (fun _=>?_)
set_option maxHeartbeats 8000000 in
set_option maxRecDepth 100000 in
theorem impl_SetBelow.calls (k:Nat) (a0:ByteArray) (a1:ByteArray) (r:Bool) (w:World) (h:impl_SetBelow.f k a0 a1 = some r) :
  Calls Try.prog 10 #[.string a0,.string a1] w fun e w'=>e = .returned (.bool r)∧Below w.heap.size w w':=by
 have hu43:=Try.underlying43
 have HB:=Aside0.mk (Below.refl w.heap.size w)
 have H:((impl_setOf.f k a0).bind fun bt407=>((impl_setOf.f k a1).bind fun bt415=>(if bt407.2.2 = true then (impl_SetBelow.j0 k (!bt415.2.2) bt407.1 bt407.2.1 bt415.1 bt415.2.1) else (impl_SetBelow.j0 k true bt407.1 bt407.2.1 bt415.1 bt415.2.1)))) = some r:=h
 clear h
 replace H:=Option.bind_eq_some_iff.mp H
 obtain ⟨⟨t407,t410,t413⟩,A30,H⟩:=H
 replace H:((impl_setOf.f k a1).bind fun bt415=>(if t413 = true then (impl_SetBelow.j0 k (!bt415.2.2) t407 t410 bt415.1 bt415.2.1) else (impl_SetBelow.j0 k true t407 t410 bt415.1 bt415.2.1))) = some r:=H
 have A3:=Aside0.mk A30
 clear A30
 replace H:=Option.bind_eq_some_iff.mp H
 obtain ⟨⟨t415,t418,t421⟩,A40,H⟩:=H
 replace H:(if t413 = true then (impl_SetBelow.j0 k (!t421) t407 t410 t415 t418) else (impl_SetBelow.j0 k true t407 t410 t415 t418)) = some r:=H
 have A4:=Aside0.mk A40
 clear A40
 have HC5:=Aside0.mk H
 clear H
 go_enter Try.func10,Try.ntmps10
 go_upto_region 3 with (first|((with_reducible refine gate_callee (f:=26) rfl ?_);refine goesL_ (some 14) rfl rfl Try.func26 (by kernel_rfl) rfl #[.string a0] rfl (by (try simp only [List.map_toArray,List.map_cons,List.map_nil]);first|done|rfl|(simp only [List.length_drop,List.length_take];rfl)) ?_;(with_reducible refine (impl_setOf.calls k a0 t407 t410 t413 _ A3.out).mono ?_);rintro e w6 ⟨v408,v411,rfl,ho0,ho1,hb⟩;refine ⟨_,rfl,?_⟩;have n0_:=Aside0.mk (Kd.R_lower ho0 (below_size (by repeat (first|(with_reducible first|exact HB.out|apply below_alloc|apply pw_below_drewN|apply below_drew1)|exact HB.out))));have n1_:=Aside0.mk (Kd.R_lower ho1 (below_size (by repeat (first|(with_reducible first|exact HB.out|apply below_alloc|apply pw_below_drewN|apply below_drew1)|exact HB.out))));have n2_:=Aside0.mk (below_step (by repeat (first|(with_reducible first|exact HB.out|apply below_alloc|apply pw_below_drewN|apply below_drew1)|exact HB.out)) hb);clear HB;have HO409:=n0_;have HO412:=n1_;have HB:=n2_;clear n0_ n1_ n2_;(try clear hb);(try clear hb2);(try clear hk);(try clear hi);(try clear ho0);(try clear ho1))|((with_reducible refine gate_dst (N:=5) rfl ?_);refine box_event ?hg (N:=5) ?hd (cs:=#[.slice none 0 0,.slice none 0 0]) (t:=43) ?hr ?_;(case hd=>rfl);(case hg=>rfl);(case hr=>first|(go_simp;done)|(go_simp;rfl));intro gb414 hg w7 hbox hb;have n0_:=Aside0.mk (Kd.R_below (by (with_reducible repeat (first|apply Kd.R_alloc|apply Kd.R_drewN|apply Kd.R_drew));exact HO409.out) hb);have n1_:=Aside0.mk (Kd.R_below (by (with_reducible repeat (first|apply Kd.R_alloc|apply Kd.R_drewN|apply Kd.R_drew));exact HO412.out) hb);have n2_:=Aside0.mk (below_step (by repeat (first|(with_reducible first|exact HB.out|apply below_alloc|apply pw_below_drewN|apply below_drew1)|exact HB.out)) hb);have n3_:=Aside0.mk (hbox);have n4_:=Aside0.mk ((by rw [hg];exact (below_size (by repeat (first|(with_reducible first|exact HB.out|apply below_alloc|apply pw_below_drewN|apply below_drew1)|exact HB.out))):w.heap.size≤gb414));have n5_:=Aside0.mk ((by rw [hg];exact (below_size (by repeat (first|(with_reducible first|exact HB.out|apply below_alloc|apply pw_below_drewN|apply below_drew1)|exact HB.out))):w.heap.size≤gb414));clear HO409;clear HO412;clear HB;have HO409:=n0_;have HO412:=n1_;have HB:=n2_;have BK414:=n3_;have GW414:=n4_;have GE414:=n5_;clear n0_ n1_ n2_ n3_ n4_ n5_;clear hb hbox hg;obtain ⟨Ao8,co8,eo8⟩:=Kd.R_slice HO409.out;subst eo8;have hcz9_0:w7.cell? ⟨gb414,0,none⟩ = some (.slice none 0 0):=(blk_cell BK414.out 0).trans rfl;have hcz9_1:w7.cell? ⟨gb414,1,none⟩ = some (.slice none 0 0):=(blk_cell BK414.out 1).trans rfl;have hfz9_0:=blk_frozen BK414.out 0;have hfz9_1:=blk_frozen BK414.out 1;obtain ⟨Ao10,co10,eo10⟩:=Kd.R_slice HO412.out;subst eo10)|((with_reducible refine gate_callee (f:=26) rfl ?_);refine goesL_ (some 19) rfl rfl Try.func26 (by kernel_rfl) rfl #[.string a1] rfl (by (try simp only [List.map_toArray,List.map_cons,List.map_nil]);first|done|rfl|(simp only [List.length_drop,List.length_take];rfl)) ?_;(with_reducible refine (impl_setOf.calls k a1 t415 t418 t421 _ A4.out).mono ?_);rintro e w11 ⟨v416,v419,rfl,ho0,ho1,hb⟩;refine ⟨_,rfl,?_⟩;have n0_:=Aside0.mk (Kd.R_mono (Kd.R_told (Kd.R_told (Kd.R_old (by (with_reducible repeat (first|apply Kd.R_alloc|apply Kd.R_drewN|apply Kd.R_drew));exact (Kd.R_mono (Kd.R_far (p:=⟨gb414,1,none⟩) (Kd.R_far (p:=⟨gb414,0,none⟩) (Kd.R_types HO409.out BK414.out (by decide)) (fun _ hk=>hk.2) (.slice Ao8 t407.length co8)) (fun _ hk=>hk.2) (.slice Ao10 t410.length co10)) (fun _ h_=>h_.1))) hb) (Kd.R_base ho0)) (Kd.R_base ho1)) (fun _ h_=>h_.1));have n1_:=Aside0.mk (Kd.R_mono (Kd.R_told (Kd.R_told (Kd.R_old (by (with_reducible repeat (first|apply Kd.R_alloc|apply Kd.R_drewN|apply Kd.R_drew));exact (Kd.R_mono (Kd.R_far (p:=⟨gb414,1,none⟩) (Kd.R_far (p:=⟨gb414,0,none⟩) (Kd.R_types HO412.out BK414.out (by decide)) (fun _ hk=>hk.2) (.slice Ao8 t407.length co8)) (fun _ hk=>hk.2) (.slice Ao10 t410.length co10)) (fun _ h_=>h_.1))) hb) (Kd.R_base ho0)) (Kd.R_base ho1)) (fun _ h_=>h_.1));have n2_:=Aside0.mk (Kd.R_lower (Kd.R_new' (Kd.R_new' ho0 (Kd.R_lt (by (with_reducible repeat (first|apply Kd.R_alloc|apply Kd.R_drewN|apply Kd.R_drew));exact (Kd.R_mono (Kd.R_far (p:=⟨gb414,1,none⟩) (Kd.R_far (p:=⟨gb414,0,none⟩) (Kd.R_types HO409.out BK414.out (by decide)) (fun _ hk=>hk.2) (.slice Ao8 t407.length co8)) (fun _ hk=>hk.2) (.slice Ao10 t410.length co10)) (fun _ h_=>h_.1))))) (Kd.R_lt (by (with_reducible repeat (first|apply Kd.R_alloc|apply Kd.R_drewN|apply Kd.R_drew));exact (Kd.R_mono (Kd.R_far (p:=⟨gb414,1,none⟩) (Kd.R_far (p:=⟨gb414,0,none⟩) (Kd.R_types HO412.out BK414.out (by decide)) (fun _ hk=>hk.2) (.slice Ao8 t407.length co8)) (fun _ hk=>hk.2) (.slice Ao10 t410.length co10)) (fun _ h_=>h_.1))))) (below_size (by repeat (first|(with_reducible first|exact HB.out|apply below_alloc|apply pw_below_drewN|apply below_drew1|refine below_set ?_ GE414.out)|exact HB.out))));have n3_:=Aside0.mk (Kd.R_lower (Kd.R_new' (Kd.R_new' ho1 (Kd.R_lt (by (with_reducible repeat (first|apply Kd.R_alloc|apply Kd.R_drewN|apply Kd.R_drew));exact (Kd.R_mono (Kd.R_far (p:=⟨gb414,1,none⟩) (Kd.R_far (p:=⟨gb414,0,none⟩) (Kd.R_types HO409.out BK414.out (by decide)) (fun _ hk=>hk.2) (.slice Ao8 t407.length co8)) (fun _ hk=>hk.2) (.slice Ao10 t410.length co10)) (fun _ h_=>h_.1))))) (Kd.R_lt (by (with_reducible repeat (first|apply Kd.R_alloc|apply Kd.R_drewN|apply Kd.R_drew));exact (Kd.R_mono (Kd.R_far (p:=⟨gb414,1,none⟩) (Kd.R_far (p:=⟨gb414,0,none⟩) (Kd.R_types HO412.out BK414.out (by decide)) (fun _ hk=>hk.2) (.slice Ao8 t407.length co8)) (fun _ hk=>hk.2) (.slice Ao10 t410.length co10)) (fun _ h_=>h_.1))))) (below_size (by repeat (first|(with_reducible first|exact HB.out|apply below_alloc|apply pw_below_drewN|apply below_drew1|refine below_set ?_ GE414.out)|exact HB.out))));have n4_:=Aside0.mk (blk_below (g:=gb414) (o:=.cells #[.slice Ao8 t407.length co8,.slice Ao10 t410.length co10] 43 (0,0)) (by (with_reducible repeat (first|refine blk_drewN ?_ _|refine blk_drew ?_|refine blk_alloc ?_ _));refine blk_put (cs:=#[.slice Ao8 t407.length co8,.slice none 0 0]) ?_ 1 _ rfl;(with_reducible repeat (first|refine blk_drewN ?_ _|refine blk_drew ?_|refine blk_alloc ?_ _));refine blk_put (cs:=#[.slice none 0 0,.slice none 0 0]) ?_ 0 _ rfl;(with_reducible repeat (first|refine blk_drewN ?_ _|refine blk_drew ?_|refine blk_alloc ?_ _));exact BK414.out) hb);have n5_:=Aside0.mk (below_step (by repeat (first|(with_reducible first|exact HB.out|apply below_alloc|apply pw_below_drewN|apply below_drew1|refine below_set ?_ GE414.out)|exact HB.out)) hb);clear HO409;clear HO412;clear BK414;clear HB;have HO409:=n0_;have HO412:=n1_;have HO417:=n2_;have HO420:=n3_;have BK414:=n4_;have HB:=n5_;clear n0_ n1_ n2_ n3_ n4_ n5_;(try clear hb);(try clear hb2);(try clear hk);(try clear hi);(try clear ho0);(try clear ho1))|((with_reducible refine gate_dst (N:=7) rfl ?_);refine box_event ?hg (N:=7) ?hd (cs:=#[.slice none 0 0,.slice none 0 0]) (t:=43) ?hr ?_;(case hd=>rfl);(case hg=>rfl);(case hr=>first|(go_simp;done)|(go_simp;rfl));intro gb422 hg w12 hbox hb;have n0_:=Aside0.mk (Kd.R_below (by (with_reducible repeat (first|apply Kd.R_alloc|apply Kd.R_drewN|apply Kd.R_drew));exact HO409.out) hb);have n1_:=Aside0.mk (Kd.R_below (by (with_reducible repeat (first|apply Kd.R_alloc|apply Kd.R_drewN|apply Kd.R_drew));exact HO412.out) hb);have n2_:=Aside0.mk (Kd.R_below (by (with_reducible repeat (first|apply Kd.R_alloc|apply Kd.R_drewN|apply Kd.R_drew));exact HO417.out) hb);have n3_:=Aside0.mk (Kd.R_below (by (with_reducible repeat (first|apply Kd.R_alloc|apply Kd.R_drewN|apply Kd.R_drew));exact HO420.out) hb);have n4_:=Aside0.mk (blk_below (g:=gb414) (o:=.cells #[.slice Ao8 t407.length co8,.slice Ao10 t410.length co10] 43 (0,0)) (by (with_reducible repeat (first|refine blk_drewN ?_ _|refine blk_drew ?_|refine blk_alloc ?_ _));exact BK414.out) hb);have n5_:=Aside0.mk (below_step (by repeat (first|(with_reducible first|exact HB.out|apply below_alloc|apply pw_below_drewN|apply below_drew1|refine below_set ?_ GE414.out)|exact HB.out)) hb);have n6_:=Aside0.mk (hbox);have n7_:=Aside0.mk ((by rw [hg];exact (below_size (by repeat (first|(with_reducible first|exact HB.out|apply below_alloc|apply pw_below_drewN|apply below_drew1|refine below_set ?_ GE414.out)|exact HB.out))):w.heap.size≤gb422));have n8_:=Aside0.mk ((by rw [hg];exact (below_size (by repeat (first|(with_reducible first|exact HB.out|apply below_alloc|apply pw_below_drewN|apply below_drew1|refine below_set ?_ GE414.out)|exact HB.out))):w.heap.size≤gb422));have n9_:=Aside0.mk ((by rw [hg];exact Nat.ne_of_lt (blk_lt (g:=gb414) (o:=.cells #[.slice Ao8 t407.length co8,.slice Ao10 t410.length co10] 43 (0,0)) (by (with_reducible repeat (first|refine blk_drewN ?_ _|refine blk_drew ?_|refine blk_alloc ?_ _));exact BK414.out)):gb414 ≠ gb422));have n10_:=Aside0.mk ((by rw [hg];exact Nat.ne_of_gt (blk_lt (g:=gb414) (o:=.cells #[.slice Ao8 t407.length co8,.slice Ao10 t410.length co10] 43 (0,0)) (by (with_reducible repeat (first|refine blk_drewN ?_ _|refine blk_drew ?_|refine blk_alloc ?_ _));exact BK414.out)):gb422 ≠ gb414));clear HO409;clear HO412;clear HO417;clear HO420;clear BK414;clear HB;have HO409:=n0_;have HO412:=n1_;have HO417:=n2_;have HO420:=n3_;have BK414:=n4_;have HB:=n5_;have BK422:=n6_;have GW422:=n7_;have GE422:=n8_;have NB414_422:=n9_;have NB422_414:=n10_;clear n0_ n1_ n2_ n3_ n4_ n5_ n6_ n7_ n8_ n9_ n10_;clear hb hbox hg;obtain ⟨Ao13,co13,eo13⟩:=Kd.R_slice HO417.out;subst eo13;have hnb14:=NB422_414.out;have hnc14:=NB414_422.out;have hcz15_0:w12.cell? ⟨gb422,0,none⟩ = some (.slice none 0 0):=(blk_cell BK422.out 0).trans rfl;have hcz15_1:w12.cell? ⟨gb422,1,none⟩ = some (.slice none 0 0):=(blk_cell BK422.out 1).trans rfl;have hfz15_0:=blk_frozen BK422.out 0;have hfz15_1:=blk_frozen BK422.out 1;obtain ⟨Ao16,co16,eo16⟩:=Kd.R_slice HO420.out;subst eo16))
 (try simp only [Act.put,List.setIfInBounds_toArray,List.set_cons_zero,List.set_cons_succ])
 go_cut [27] (fun v27 wc=>∃ (kq:Nat) (x27_4:Bool),v27 = .bool x27_4∧Aside0 (impl_SetBelow.j0 kq x27_4 t407 t410 t415 t418 = some r)∧Aside0 (kq≤k)∧Aside0 (Kd.R Kd.bool 4 wc w.heap.size (fun k_=>some k_ ≠ ((.slice Ao10 t410.length co10):Value).ownBlock∧some k_ ≠ ((.slice Ao13 t415.length co13):Value).ownBlock∧some k_ ≠ ((.slice Ao16 t418.length co16):Value).ownBlock) (.slice Ao8 t407.length co8) t407)∧Aside0 (Kd.R Kd.bool 4 wc w.heap.size (fun k_=>some k_ ≠ ((.slice Ao8 t407.length co8):Value).ownBlock∧some k_ ≠ ((.slice Ao13 t415.length co13):Value).ownBlock∧some k_ ≠ ((.slice Ao16 t418.length co16):Value).ownBlock) (.slice Ao10 t410.length co10) t410)∧Aside0 (Kd.R Kd.bool 4 wc w.heap.size (fun k_=>some k_ ≠ ((.slice Ao8 t407.length co8):Value).ownBlock∧some k_ ≠ ((.slice Ao10 t410.length co10):Value).ownBlock∧some k_ ≠ ((.slice Ao16 t418.length co16):Value).ownBlock) (.slice Ao13 t415.length co13) t415)∧Aside0 (Kd.R Kd.bool 4 wc w.heap.size (fun k_=>some k_ ≠ ((.slice Ao8 t407.length co8):Value).ownBlock∧some k_ ≠ ((.slice Ao10 t410.length co10):Value).ownBlock∧some k_ ≠ ((.slice Ao13 t415.length co13):Value).ownBlock) (.slice Ao16 t418.length co16) t418)∧Aside0 (wc.heap[gb414]? = some (.cells #[(.slice Ao8 t407.length co8),(.slice Ao10 t410.length co10)] 43 (0,0)))∧Aside0 (wc.heap[gb422]? = some (.cells #[(.slice Ao13 t415.length co13),(.slice Ao16 t418.length co16)] 43 (0,0)))∧Aside0 (Below w.heap.size w wc))
 case first =>
  have H:=HC5.out
  clear HC5
  by_cases c17:t413 = true
  ·subst c17
   have H1:(impl_SetBelow.j0 k (!t421) t407 t410 t415 t418) = some r:=by rw [if_pos rfl] at H;exact H
   clear H
   have H:=H1
   clear H1
   have H':=Aside0.mk H
   clear H
   go_wp2
   go_meet
   case rel=>exact ⟨_,(!t421),(by first|rfl|(simp;done)|(simp [*];done)|(simp [Int.tmod_eq_emod_of_nonneg];done)),H',⟨by first|omega|exact Nat.le_refl _⟩,⟨by (with_reducible repeat (first|apply Kd.R_alloc|apply Kd.R_drewN|apply Kd.R_drew));exact Kd.R_mono (Kd.R_far (p:=⟨gb422,1,none⟩) (Kd.R_far (p:=⟨gb422,0,none⟩) (Kd.R_types HO409.out BK422.out (by decide)) (fun _ hk=>hk.2) (.slice Ao13 t415.length co13)) (fun _ hk=>hk.2) (.slice Ao16 t418.length co16)) (fun _ hk=>⟨hk.1.1.1,⟨hk.1.1.2,hk.1.2⟩⟩)⟩,⟨by (with_reducible repeat (first|apply Kd.R_alloc|apply Kd.R_drewN|apply Kd.R_drew));exact Kd.R_mono (Kd.R_far (p:=⟨gb422,1,none⟩) (Kd.R_far (p:=⟨gb422,0,none⟩) (Kd.R_types HO412.out BK422.out (by decide)) (fun _ hk=>hk.2) (.slice Ao13 t415.length co13)) (fun _ hk=>hk.2) (.slice Ao16 t418.length co16)) (fun _ hk=>⟨hk.1.1.1,⟨hk.1.1.2,hk.1.2⟩⟩)⟩,⟨by (with_reducible repeat (first|apply Kd.R_alloc|apply Kd.R_drewN|apply Kd.R_drew));exact Kd.R_mono (Kd.R_far (p:=⟨gb422,1,none⟩) (Kd.R_far (p:=⟨gb422,0,none⟩) (Kd.R_types HO417.out BK422.out (by decide)) (fun _ hk=>hk.2) (.slice Ao13 t415.length co13)) (fun _ hk=>hk.2) (.slice Ao16 t418.length co16)) (fun _ hk=>⟨hk.1.1.2,⟨hk.1.2,hk.1.1.1⟩⟩)⟩,⟨by (with_reducible repeat (first|apply Kd.R_alloc|apply Kd.R_drewN|apply Kd.R_drew));exact Kd.R_mono (Kd.R_far (p:=⟨gb422,1,none⟩) (Kd.R_far (p:=⟨gb422,0,none⟩) (Kd.R_types HO420.out BK422.out (by decide)) (fun _ hk=>hk.2) (.slice Ao13 t415.length co13)) (fun _ hk=>hk.2) (.slice Ao16 t418.length co16)) (fun _ hk=>⟨hk.1.1.2,⟨hk.1.2,hk.1.1.1⟩⟩)⟩,⟨by (with_reducible repeat (first|refine blk_drewN ?_ _|refine blk_drew ?_|refine blk_alloc ?_ _));refine blk_far ?_ NB414_422.out _;(with_reducible repeat (first|refine blk_drewN ?_ _|refine blk_drew ?_|refine blk_alloc ?_ _));refine blk_far ?_ NB414_422.out _;(with_reducible repeat (first|refine blk_drewN ?_ _|refine blk_drew ?_|refine blk_alloc ?_ _));exact BK414.out⟩,⟨by (with_reducible repeat (first|refine blk_drewN ?_ _|refine blk_drew ?_|refine blk_alloc ?_ _));refine blk_put (cs:=#[.slice Ao13 t415.length co13,.slice none 0 0]) ?_ 1 _ rfl;(with_reducible repeat (first|refine blk_drewN ?_ _|refine blk_drew ?_|refine blk_alloc ?_ _));refine blk_put (cs:=#[.slice none 0 0,.slice none 0 0]) ?_ 0 _ rfl;(with_reducible repeat (first|refine blk_drewN ?_ _|refine blk_drew ?_|refine blk_alloc ?_ _));exact BK422.out⟩,⟨by repeat (first|(with_reducible first|exact HB.out|apply below_alloc|apply pw_below_drewN|apply below_drew1|refine below_set ?_ GE414.out|refine below_set ?_ GE422.out)|exact HB.out)⟩⟩
  ·replace c17:=Bool.eq_false_iff.mpr c17
   subst c17
   have H1:(impl_SetBelow.j0 k true t407 t410 t415 t418) = some r:=by rw [if_neg (show ¬ (false = true) by decide)] at H;exact H
   clear H
   have H:=H1
   clear H1
   have H':=Aside0.mk H
   clear H
   go_wp2
   go_meet
   case rel=>exact ⟨_,(true),(by first|rfl|(simp;done)|(simp [*];done)|(simp [Int.tmod_eq_emod_of_nonneg];done)),H',⟨by first|omega|exact Nat.le_refl _⟩,⟨by (with_reducible repeat (first|apply Kd.R_alloc|apply Kd.R_drewN|apply Kd.R_drew));exact Kd.R_mono (Kd.R_far (p:=⟨gb422,1,none⟩) (Kd.R_far (p:=⟨gb422,0,none⟩) (Kd.R_types HO409.out BK422.out (by decide)) (fun _ hk=>hk.2) (.slice Ao13 t415.length co13)) (fun _ hk=>hk.2) (.slice Ao16 t418.length co16)) (fun _ hk=>⟨hk.1.1.1,⟨hk.1.1.2,hk.1.2⟩⟩)⟩,⟨by (with_reducible repeat (first|apply Kd.R_alloc|apply Kd.R_drewN|apply Kd.R_drew));exact Kd.R_mono (Kd.R_far (p:=⟨gb422,1,none⟩) (Kd.R_far (p:=⟨gb422,0,none⟩) (Kd.R_types HO412.out BK422.out (by decide)) (fun _ hk=>hk.2) (.slice Ao13 t415.length co13)) (fun _ hk=>hk.2) (.slice Ao16 t418.length co16)) (fun _ hk=>⟨hk.1.1.1,⟨hk.1.1.2,hk.1.2⟩⟩)⟩,⟨by (with_reducible repeat (first|apply Kd.R_alloc|apply Kd.R_drewN|apply Kd.R_drew));exact Kd.R_mono (Kd.R_far (p:=⟨gb422,1,none⟩) (Kd.R_far (p:=⟨gb422,0,none⟩) (Kd.R_types HO417.out BK422.out (by decide)) (fun _ hk=>hk.2) (.slice Ao13 t415.length co13)) (fun _ hk=>hk.2) (.slice Ao16 t418.length co16)) (fun _ hk=>⟨hk.1.1.2,⟨hk.1.2,hk.1.1.1⟩⟩)⟩,⟨by (with_reducible repeat (first|apply Kd.R_alloc|apply Kd.R_drewN|apply Kd.R_drew));exact Kd.R_mono (Kd.R_far (p:=⟨gb422,1,none⟩) (Kd.R_far (p:=⟨gb422,0,none⟩) (Kd.R_types HO420.out BK422.out (by decide)) (fun _ hk=>hk.2) (.slice Ao13 t415.length co13)) (fun _ hk=>hk.2) (.slice Ao16 t418.length co16)) (fun _ hk=>⟨hk.1.1.2,⟨hk.1.2,hk.1.1.1⟩⟩)⟩,⟨by (with_reducible repeat (first|refine blk_drewN ?_ _|refine blk_drew ?_|refine blk_alloc ?_ _));refine blk_far ?_ NB414_422.out _;(with_reducible repeat (first|refine blk_drewN ?_ _|refine blk_drew ?_|refine blk_alloc ?_ _));refine blk_far ?_ NB414_422.out _;(with_reducible repeat (first|refine blk_drewN ?_ _|refine blk_drew ?_|refine blk_alloc ?_ _));exact BK414.out⟩,⟨by (with_reducible repeat (first|refine blk_drewN ?_ _|refine blk_drew ?_|refine blk_alloc ?_ _));refine blk_put (cs:=#[.slice Ao13 t415.length co13,.slice none 0 0]) ?_ 1 _ rfl;(with_reducible repeat (first|refine blk_drewN ?_ _|refine blk_drew ?_|refine blk_alloc ?_ _));refine blk_put (cs:=#[.slice none 0 0,.slice none 0 0]) ?_ 0 _ rfl;(with_reducible repeat (first|refine blk_drewN ?_ _|refine blk_drew ?_|refine blk_alloc ?_ _));exact BK422.out⟩,⟨by repeat (first|(with_reducible first|exact HB.out|apply below_alloc|apply pw_below_drewN|apply below_drew1|refine below_set ?_ GE414.out|refine below_set ?_ GE422.out)|exact HB.out)⟩⟩
 case rest =>
  clear HC5
  try clear c1
  try clear c2
  try clear p2
  try clear c10
  try clear c14
  try clear c17
  try clear hcz15_0
  try clear hcz15_1
  try clear hcz9_0
  try clear hcz9_1
  try clear hfz15_0
  try clear hfz15_1
  try clear hfz9_0
  try clear hfz9_1
  obtain ⟨kq,x27_4,rfl,HA,HJ4,HO_415000,HO_415001,HO_423000,HO_423001,BK414,BK422,HB⟩:=hcut
  cases kq with
  | zero=>exact absurd HA.out (by simp [impl_SetBelow.j0])
  | succ kj4 =>
   have H:=HA.out
   clear HA
   simp only [impl_SetBelow.j0] at H
   by_cases c18:x27_4 = true
   ·subst c18
    have H1:(some false) = some r:=by rw [if_pos rfl] at H;exact H
    clear H
    have H:=H1
    clear H1
    obtain rfl:=Option.some.inj H
    go_wp2
    go_ret
    exact ⟨by first|rfl|(simp [errW_none,errW_some] <;> rfl)|(simp [*,errW_none,errW_some] <;> rfl)|(simp [errW_none,errW_some];exact ⟨rfl,rfl⟩),by repeat (first|(with_reducible first|exact HB.out|apply below_alloc|apply pw_below_drewN|apply below_drew1|refine below_set ?_ GE414.out|refine below_set ?_ GE422.out)|exact HB.out)⟩
   ·replace c18:=Bool.eq_false_iff.mpr c18
    subst c18
    have H1:((impl_both.f kj4 t407 t410 t415 t418).bind fun bt423=>(impl_SetBelow.l0 kj4 (wrap64 (bt423.1 + bt423.2)) 0 t407 t410 t415 t418)) = some r:=by rw [if_neg (show ¬ (false = true) by decide)] at H;exact H
    clear H
    have H:=H1
    clear H1
    replace H:=Option.bind_eq_some_iff.mp H
    obtain ⟨⟨t423,t424⟩,A190,H⟩:=H
    replace H:(impl_SetBelow.l0 kj4 (wrap64 (t423 + t424)) 0 t407 t410 t415 t418) = some r:=H
    have A19:=Aside0.mk A190
    clear A190
    have H':=Aside0.mk H
    clear H
    have hnb20:=NB414_422.out
    have hnc20:=NB422_414.out
    have hcz21_0:wc.cell? ⟨gb414,0,none⟩ = some (.slice Ao8 t407.length co8):=(blk_cell BK414.out 0).trans rfl
    have hcz21_1:wc.cell? ⟨gb414,1,none⟩ = some (.slice Ao10 t410.length co10):=(blk_cell BK414.out 1).trans rfl
    have hfz21_0:=blk_frozen BK414.out 0
    have hfz21_1:=blk_frozen BK414.out 1
    have hcz22_0:wc.cell? ⟨gb422,0,none⟩ = some (.slice Ao13 t415.length co13):=(blk_cell BK422.out 0).trans rfl
    have hcz22_1:wc.cell? ⟨gb422,1,none⟩ = some (.slice Ao16 t418.length co16):=(blk_cell BK422.out 1).trans rfl
    have hfz22_0:=blk_frozen BK422.out 0
    have hfz22_1:=blk_frozen BK422.out 1
    go_wp2_with (first|((with_reducible refine gate_callee (f:=28) rfl ?_);refine goesL_ (some 31) rfl rfl Try.func28 (by kernel_rfl) rfl #[.agg #[.slice Ao8 t407.length co8,.slice Ao10 t410.length co10],.agg #[.slice Ao13 t415.length co13,.slice Ao16 t418.length co16]] rfl (by (try simp only [List.map_toArray,List.map_cons,List.map_nil]);first|done|rfl|(simp only [List.length_drop,List.length_take];rfl)) ?_;(with_reducible refine (impl_both.calls kj4 _ _ t407 _ _ t410 _ _ t415 _ _ t418 t423 t424 _ ?side1 ?side2 ?side3 ?side4 ?side5 ?side6 ?side7 ?side8 A19.out).mono ?_);(case side1=>repeat (first|exact (Kd.R_reads' HO_415000.out).2.2|(with_reducible refine Kd.C_alloc ?_ _)|(with_reducible refine Kd.C_drewN ?_ _)|(with_reducible refine Kd.C_drew ?_)));(case side2=>exact (Kd.R_reads' HO_415000.out).2.1);(case side3=>repeat (first|exact (Kd.R_reads' HO_415001.out).2.2|(with_reducible refine Kd.C_alloc ?_ _)|(with_reducible refine Kd.C_drewN ?_ _)|(with_reducible refine Kd.C_drew ?_)));(case side4=>exact (Kd.R_reads' HO_415001.out).2.1);(case side5=>repeat (first|exact (Kd.R_reads' HO_423000.out).2.2|(with_reducible refine Kd.C_alloc ?_ _)|(with_reducible refine Kd.C_drewN ?_ _)|(with_reducible refine Kd.C_drew ?_)));(case side6=>exact (Kd.R_reads' HO_423000.out).2.1);(case side7=>repeat (first|exact (Kd.R_reads' HO_423001.out).2.2|(with_reducible refine Kd.C_alloc ?_ _)|(with_reducible refine Kd.C_drewN ?_ _)|(with_reducible refine Kd.C_drew ?_)));(case side8=>exact (Kd.R_reads' HO_423001.out).2.1);rintro e w23 ⟨rfl,hb⟩;refine ⟨_,rfl,?_⟩;have n0_:=Aside0.mk (Kd.R_below (by (with_reducible repeat (first|apply Kd.R_alloc|apply Kd.R_drewN|apply Kd.R_drew));exact HO_415000.out) hb);have n1_:=Aside0.mk (Kd.R_below (by (with_reducible repeat (first|apply Kd.R_alloc|apply Kd.R_drewN|apply Kd.R_drew));exact HO_415001.out) hb);have n2_:=Aside0.mk (Kd.R_below (by (with_reducible repeat (first|apply Kd.R_alloc|apply Kd.R_drewN|apply Kd.R_drew));exact HO_423000.out) hb);have n3_:=Aside0.mk (Kd.R_below (by (with_reducible repeat (first|apply Kd.R_alloc|apply Kd.R_drewN|apply Kd.R_drew));exact HO_423001.out) hb);have n4_:=Aside0.mk (blk_below (g:=gb414) (o:=.cells #[.slice Ao8 t407.length co8,.slice Ao10 t410.length co10] 43 (0,0)) (by (with_reducible repeat (first|refine blk_drewN ?_ _|refine blk_drew ?_|refine blk_alloc ?_ _));exact BK414.out) hb);have n5_:=Aside0.mk (blk_below (g:=gb422) (o:=.cells #[.slice Ao13 t415.length co13,.slice Ao16 t418.length co16] 43 (0,0)) (by (with_reducible repeat (first|refine blk_drewN ?_ _|refine blk_drew ?_|refine blk_alloc ?_ _));exact BK422.out) hb);have n6_:=Aside0.mk (below_step (by repeat (first|(with_reducible first|exact HB.out|apply below_alloc|apply pw_below_drewN|apply below_drew1|refine below_set ?_ GE414.out|refine below_set ?_ GE422.out)|exact HB.out)) hb);clear HO_415000;clear HO_415001;clear HO_423000;clear HO_423001;clear BK414;clear BK422;clear HB;have HO_415000:=n0_;have HO_415001:=n1_;have HO_423000:=n2_;have HO_423001:=n3_;have BK414:=n4_;have BK422:=n5_;have HB:=n6_;clear n0_ n1_ n2_ n3_ n4_ n5_ n6_;(try clear hb);(try clear hb2);(try clear hk);(try clear hi)))
    go_loopg [37] kj4 (fun kq v37 w'=>∃ (x37_2:Int),v37 = .int .i64 x37_2∧Aside0 (impl_SetBelow.l0 kq (wrap64 (t423 + t424)) x37_2 t407 t410 t415 t418 = some r)∧Aside0 (kq≤kj4)∧Aside0 (Kd.R Kd.bool 4 w' w.heap.size (fun k_=>some k_ ≠ ((.slice Ao10 t410.length co10):Value).ownBlock∧some k_ ≠ ((.slice Ao13 t415.length co13):Value).ownBlock∧some k_ ≠ ((.slice Ao16 t418.length co16):Value).ownBlock) (.slice Ao8 t407.length co8) t407)∧Aside0 (Kd.R Kd.bool 4 w' w.heap.size (fun k_=>some k_ ≠ ((.slice Ao8 t407.length co8):Value).ownBlock∧some k_ ≠ ((.slice Ao13 t415.length co13):Value).ownBlock∧some k_ ≠ ((.slice Ao16 t418.length co16):Value).ownBlock) (.slice Ao10 t410.length co10) t410)∧Aside0 (Kd.R Kd.bool 4 w' w.heap.size (fun k_=>some k_ ≠ ((.slice Ao8 t407.length co8):Value).ownBlock∧some k_ ≠ ((.slice Ao10 t410.length co10):Value).ownBlock∧some k_ ≠ ((.slice Ao16 t418.length co16):Value).ownBlock) (.slice Ao13 t415.length co13) t415)∧Aside0 (Kd.R Kd.bool 4 w' w.heap.size (fun k_=>some k_ ≠ ((.slice Ao8 t407.length co8):Value).ownBlock∧some k_ ≠ ((.slice Ao10 t410.length co10):Value).ownBlock∧some k_ ≠ ((.slice Ao13 t415.length co13):Value).ownBlock) (.slice Ao16 t418.length co16) t418)∧Aside0 (w'.heap[gb414]? = some (.cells #[(.slice Ao8 t407.length co8),(.slice Ao10 t410.length co10)] 43 (0,0)))∧Aside0 (w'.heap[gb422]? = some (.cells #[(.slice Ao13 t415.length co13),(.slice Ao16 t418.length co16)] 43 (0,0)))∧Aside0 (Below w.heap.size w w'))
    case atStart=>exact ⟨(0),(by first|rfl|(simp;done)|(simp [*];done)|(simp [Int.tmod_eq_emod_of_nonneg];done)),H',⟨Nat.le_refl _⟩,⟨by (with_reducible repeat (first|apply Kd.R_alloc|apply Kd.R_drewN|apply Kd.R_drew));exact HO_415000.out⟩,⟨by (with_reducible repeat (first|apply Kd.R_alloc|apply Kd.R_drewN|apply Kd.R_drew));exact HO_415001.out⟩,⟨by (with_reducible repeat (first|apply Kd.R_alloc|apply Kd.R_drewN|apply Kd.R_drew));exact HO_423000.out⟩,⟨by (with_reducible repeat (first|apply Kd.R_alloc|apply Kd.R_drewN|apply Kd.R_drew));exact HO_423001.out⟩,⟨by (with_reducible repeat (first|refine blk_drewN ?_ _|refine blk_drew ?_|refine blk_alloc ?_ _));exact BK414.out⟩,⟨by (with_reducible repeat (first|refine blk_drewN ?_ _|refine blk_drew ?_|refine blk_alloc ?_ _));exact BK422.out⟩,⟨by repeat (first|(with_reducible first|exact HB.out|apply below_alloc|apply pw_below_drewN|apply below_drew1|refine below_set ?_ GE414.out|refine below_set ?_ GE422.out)|exact HB.out)⟩⟩
    case round =>
     clear H'
     try clear c1
     try clear c2
     try clear p2
     try clear p6
     try clear c10
     try clear c14
     try clear c17
     try clear c18
     try clear c20
     try clear hcz15_0
     try clear hcz15_1
     try clear hcz21_0
     try clear hcz21_1
     try clear hcz22_0
     try clear hcz22_1
     try clear hcz9_0
     try clear hcz9_1
     try clear hfz15_0
     try clear hfz15_1
     try clear hfz21_0
     try clear hfz21_1
     try clear hfz22_0
     try clear hfz22_1
     try clear hfz9_0
     try clear hfz9_1
     try clear p2
     obtain ⟨x37_2,rfl,HA,HK2,HO_415000,HO_415001,HO_423000,HO_423001,BK414,BK422,HB⟩:=hrel
     cases gk with
     | zero=>exact absurd HA.out (by simp [impl_SetBelow.l0])
     | succ k2 =>
      have H:=HA.out
      clear HA
      simp only [impl_SetBelow.l0] at H
      by_cases c24:x37_2 < (wrap64 (t423 + t424))
      ·rw [if_pos c24] at H
       have c24b0:decide (x37_2 < (wrap64 (t423 + t424))) = true:=decide_eq_true c24
       clear c24
       replace H:=Option.bind_eq_some_iff.mp H
       obtain ⟨t425,A250,H⟩:=H
       replace H:(if t425 = true then ((impl_set_has.f t415 t418 x37_2).bind fun t426=>(if t426 = true then (impl_SetBelow.l0 k2 (wrap64 (t423 + t424)) (wrap64 (x37_2 + 1)) t407 t410 t415 t418) else (some false))) else (impl_SetBelow.l0 k2 (wrap64 (t423 + t424)) (wrap64 (x37_2 + 1)) t407 t410 t415 t418)) = some r:=H
       have A25:=Aside0.mk A250
       clear A250
       by_cases c26:t425 = true
       ·subst c26
        have H1:((impl_set_has.f t415 t418 x37_2).bind fun t426=>(if t426 = true then (impl_SetBelow.l0 k2 (wrap64 (t423 + t424)) (wrap64 (x37_2 + 1)) t407 t410 t415 t418) else (some false))) = some r:=by rw [if_pos rfl] at H;exact H
        clear H
        have H:=H1
        clear H1
        replace H:=Option.bind_eq_some_iff.mp H
        obtain ⟨t426,A270,H⟩:=H
        replace H:(if t426 = true then (impl_SetBelow.l0 k2 (wrap64 (t423 + t424)) (wrap64 (x37_2 + 1)) t407 t410 t415 t418) else (some false)) = some r:=H
        have A27:=Aside0.mk A270
        clear A270
        by_cases c28:t426 = true
        ·subst c28
         have H1:(impl_SetBelow.l0 k2 (wrap64 (t423 + t424)) (wrap64 (x37_2 + 1)) t407 t410 t415 t418) = some r:=by rw [if_pos rfl] at H;exact H
         clear H
         have H:=H1
         clear H1
         have H':=Aside0.mk H
         clear H
         have hnb29:=NB414_422.out
         have hnc29:=NB422_414.out
         have hcz30_0:wr.cell? ⟨gb414,0,none⟩ = some (.slice Ao8 t407.length co8):=(blk_cell BK414.out 0).trans rfl
         have hcz30_1:wr.cell? ⟨gb414,1,none⟩ = some (.slice Ao10 t410.length co10):=(blk_cell BK414.out 1).trans rfl
         have hfz30_0:=blk_frozen BK414.out 0
         have hfz30_1:=blk_frozen BK414.out 1
         go_wp2_with (first|((with_reducible refine gate_callee (f:=27) rfl ?_);refine goesL_ (some 42) rfl rfl Try.func27 (by kernel_rfl) rfl #[.agg #[.slice Ao8 t407.length co8,.slice Ao10 t410.length co10],.int .i64 x37_2] rfl (by (try simp only [List.map_toArray,List.map_cons,List.map_nil]);first|done|rfl|(simp only [List.length_drop,List.length_take];rfl)) ?_;(with_reducible refine (impl_set_has.calls _ _ t407 _ _ t410 x37_2 true _ ?side1 ?side2 ?side3 ?side4 A25.out).mono ?_);(case side1=>repeat (first|exact (Kd.R_reads' HO_415000.out).2.2|(with_reducible refine Kd.C_alloc ?_ _)|(with_reducible refine Kd.C_drewN ?_ _)|(with_reducible refine Kd.C_drew ?_)));(case side2=>exact (Kd.R_reads' HO_415000.out).2.1);(case side3=>repeat (first|exact (Kd.R_reads' HO_415001.out).2.2|(with_reducible refine Kd.C_alloc ?_ _)|(with_reducible refine Kd.C_drewN ?_ _)|(with_reducible refine Kd.C_drew ?_)));(case side4=>exact (Kd.R_reads' HO_415001.out).2.1);rintro e w31 ⟨rfl,hb⟩;refine ⟨_,rfl,?_⟩;have n0_:=Aside0.mk (Kd.R_below (by (with_reducible repeat (first|apply Kd.R_alloc|apply Kd.R_drewN|apply Kd.R_drew));exact HO_415000.out) hb);have n1_:=Aside0.mk (Kd.R_below (by (with_reducible repeat (first|apply Kd.R_alloc|apply Kd.R_drewN|apply Kd.R_drew));exact HO_415001.out) hb);have n2_:=Aside0.mk (Kd.R_below (by (with_reducible repeat (first|apply Kd.R_alloc|apply Kd.R_drewN|apply Kd.R_drew));exact HO_423000.out) hb);have n3_:=Aside0.mk (Kd.R_below (by (with_reducible repeat (first|apply Kd.R_alloc|apply Kd.R_drewN|apply Kd.R_drew));exact HO_423001.out) hb);have n4_:=Aside0.mk (blk_below (g:=gb414) (o:=.cells #[.slice Ao8 t407.length co8,.slice Ao10 t410.length co10] 43 (0,0)) (by (with_reducible repeat (first|refine blk_drewN ?_ _|refine blk_drew ?_|refine blk_alloc ?_ _));exact BK414.out) hb);have n5_:=Aside0.mk (blk_below (g:=gb422) (o:=.cells #[.slice Ao13 t415.length co13,.slice Ao16 t418.length co16] 43 (0,0)) (by (with_reducible repeat (first|refine blk_drewN ?_ _|refine blk_drew ?_|refine blk_alloc ?_ _));exact BK422.out) hb);have n6_:=Aside0.mk (below_step (by repeat (first|(with_reducible first|exact HB.out|apply below_alloc|apply pw_below_drewN|apply below_drew1|refine below_set ?_ GE414.out|refine below_set ?_ GE422.out)|exact HB.out)) hb);clear HO_415000;clear HO_415001;clear HO_423000;clear HO_423001;clear BK414;clear BK422;clear HB;have HO_415000:=n0_;have HO_415001:=n1_;have HO_423000:=n2_;have HO_423001:=n3_;have BK414:=n4_;have BK422:=n5_;have HB:=n6_;clear n0_ n1_ n2_ n3_ n4_ n5_ n6_;(try clear hb);(try clear hb2);(try clear hk);(try clear hi);have hcz32_0:w31.cell? ⟨gb422,0,none⟩ = some (.slice Ao13 t415.length co13):=(blk_cell BK422.out 0).trans rfl;have hcz32_1:w31.cell? ⟨gb422,1,none⟩ = some (.slice Ao16 t418.length co16):=(blk_cell BK422.out 1).trans rfl;have hfz32_0:=blk_frozen BK422.out 0;have hfz32_1:=blk_frozen BK422.out 1)|(go_at_call 27;(with_reducible refine (impl_set_has.calls _ _ t415 _ _ t418 x37_2 true _ ?side1 ?side2 ?side3 ?side4 A27.out).mono ?_);(case side1=>repeat (first|exact (Kd.R_reads' HO_423000.out).2.2|(with_reducible refine Kd.C_alloc ?_ _)|(with_reducible refine Kd.C_drewN ?_ _)|(with_reducible refine Kd.C_drew ?_)));(case side2=>exact (Kd.R_reads' HO_423000.out).2.1);(case side3=>repeat (first|exact (Kd.R_reads' HO_423001.out).2.2|(with_reducible refine Kd.C_alloc ?_ _)|(with_reducible refine Kd.C_drewN ?_ _)|(with_reducible refine Kd.C_drew ?_)));(case side4=>exact (Kd.R_reads' HO_423001.out).2.1);rintro e w33 ⟨rfl,hb⟩;have n0_:=Aside0.mk (Kd.R_below (by (with_reducible repeat (first|apply Kd.R_alloc|apply Kd.R_drewN|apply Kd.R_drew));exact HO_415000.out) hb);have n1_:=Aside0.mk (Kd.R_below (by (with_reducible repeat (first|apply Kd.R_alloc|apply Kd.R_drewN|apply Kd.R_drew));exact HO_415001.out) hb);have n2_:=Aside0.mk (Kd.R_below (by (with_reducible repeat (first|apply Kd.R_alloc|apply Kd.R_drewN|apply Kd.R_drew));exact HO_423000.out) hb);have n3_:=Aside0.mk (Kd.R_below (by (with_reducible repeat (first|apply Kd.R_alloc|apply Kd.R_drewN|apply Kd.R_drew));exact HO_423001.out) hb);have n4_:=Aside0.mk (blk_below (g:=gb414) (o:=.cells #[.slice Ao8 t407.length co8,.slice Ao10 t410.length co10] 43 (0,0)) (by (with_reducible repeat (first|refine blk_drewN ?_ _|refine blk_drew ?_|refine blk_alloc ?_ _));exact BK414.out) hb);have n5_:=Aside0.mk (blk_below (g:=gb422) (o:=.cells #[.slice Ao13 t415.length co13,.slice Ao16 t418.length co16] 43 (0,0)) (by (with_reducible repeat (first|refine blk_drewN ?_ _|refine blk_drew ?_|refine blk_alloc ?_ _));exact BK422.out) hb);have n6_:=Aside0.mk (below_step (by repeat (first|(with_reducible first|exact HB.out|apply below_alloc|apply pw_below_drewN|apply below_drew1|refine below_set ?_ GE414.out|refine below_set ?_ GE422.out)|exact HB.out)) hb);clear HO_415000;clear HO_415001;clear HO_423000;clear HO_423001;clear BK414;clear BK422;clear HB;have HO_415000:=n0_;have HO_415001:=n1_;have HO_423000:=n2_;have HO_423001:=n3_;have BK414:=n4_;have BK422:=n5_;have HB:=n6_;clear n0_ n1_ n2_ n3_ n4_ n5_ n6_;(try clear hb);(try clear hb2);(try clear hk);(try clear hi)))
         go_roundg k2
         case measure=>have:=HJ4.out;have:=HK2.out;omega
         case rel=>exact ⟨(wrap64 (x37_2 + 1)),(by first|rfl|(simp;done)|(simp [*];done)|(simp [Int.tmod_eq_emod_of_nonneg];done)),H',⟨by have:=HJ4.out;have:=HK2.out;omega⟩,⟨by (with_reducible repeat (first|apply Kd.R_alloc|apply Kd.R_drewN|apply Kd.R_drew));exact HO_415000.out⟩,⟨by (with_reducible repeat (first|apply Kd.R_alloc|apply Kd.R_drewN|apply Kd.R_drew));exact HO_415001.out⟩,⟨by (with_reducible repeat (first|apply Kd.R_alloc|apply Kd.R_drewN|apply Kd.R_drew));exact HO_423000.out⟩,⟨by (with_reducible repeat (first|apply Kd.R_alloc|apply Kd.R_drewN|apply Kd.R_drew));exact HO_423001.out⟩,⟨by (with_reducible repeat (first|refine blk_drewN ?_ _|refine blk_drew ?_|refine blk_alloc ?_ _));exact BK414.out⟩,⟨by (with_reducible repeat (first|refine blk_drewN ?_ _|refine blk_drew ?_|refine blk_alloc ?_ _));exact BK422.out⟩,⟨by repeat (first|(with_reducible first|exact HB.out|apply below_alloc|apply pw_below_drewN|apply below_drew1|refine below_set ?_ GE414.out|refine below_set ?_ GE422.out)|exact HB.out)⟩⟩
        ·replace c28:=Bool.eq_false_iff.mpr c28
         subst c28
         have H1:(some false) = some r:=by rw [if_neg (show ¬ (false = true) by decide)] at H;exact H
         clear H
         have H:=H1
         clear H1
         obtain rfl:=Option.some.inj H
         have hnb34:=NB414_422.out
         have hnc34:=NB422_414.out
         have hcz35_0:wr.cell? ⟨gb414,0,none⟩ = some (.slice Ao8 t407.length co8):=(blk_cell BK414.out 0).trans rfl
         have hcz35_1:wr.cell? ⟨gb414,1,none⟩ = some (.slice Ao10 t410.length co10):=(blk_cell BK414.out 1).trans rfl
         have hfz35_0:=blk_frozen BK414.out 0
         have hfz35_1:=blk_frozen BK414.out 1
         go_wp2_with (first|((with_reducible refine gate_callee (f:=27) rfl ?_);refine goesL_ (some 42) rfl rfl Try.func27 (by kernel_rfl) rfl #[.agg #[.slice Ao8 t407.length co8,.slice Ao10 t410.length co10],.int .i64 x37_2] rfl (by (try simp only [List.map_toArray,List.map_cons,List.map_nil]);first|done|rfl|(simp only [List.length_drop,List.length_take];rfl)) ?_;(with_reducible refine (impl_set_has.calls _ _ t407 _ _ t410 x37_2 true _ ?side1 ?side2 ?side3 ?side4 A25.out).mono ?_);(case side1=>repeat (first|exact (Kd.R_reads' HO_415000.out).2.2|(with_reducible refine Kd.C_alloc ?_ _)|(with_reducible refine Kd.C_drewN ?_ _)|(with_reducible refine Kd.C_drew ?_)));(case side2=>exact (Kd.R_reads' HO_415000.out).2.1);(case side3=>repeat (first|exact (Kd.R_reads' HO_415001.out).2.2|(with_reducible refine Kd.C_alloc ?_ _)|(with_reducible refine Kd.C_drewN ?_ _)|(with_reducible refine Kd.C_drew ?_)));(case side4=>exact (Kd.R_reads' HO_415001.out).2.1);rintro e w36 ⟨rfl,hb⟩;refine ⟨_,rfl,?_⟩;have n0_:=Aside0.mk (Kd.R_below (by (with_reducible repeat (first|apply Kd.R_alloc|apply Kd.R_drewN|apply Kd.R_drew));exact HO_415000.out) hb);have n1_:=Aside0.mk (Kd.R_below (by (with_reducible repeat (first|apply Kd.R_alloc|apply Kd.R_drewN|apply Kd.R_drew));exact HO_415001.out) hb);have n2_:=Aside0.mk (Kd.R_below (by (with_reducible repeat (first|apply Kd.R_alloc|apply Kd.R_drewN|apply Kd.R_drew));exact HO_423000.out) hb);have n3_:=Aside0.mk (Kd.R_below (by (with_reducible repeat (first|apply Kd.R_alloc|apply Kd.R_drewN|apply Kd.R_drew));exact HO_423001.out) hb);have n4_:=Aside0.mk (blk_below (g:=gb414) (o:=.cells #[.slice Ao8 t407.length co8,.slice Ao10 t410.length co10] 43 (0,0)) (by (with_reducible repeat (first|refine blk_drewN ?_ _|refine blk_drew ?_|refine blk_alloc ?_ _));exact BK414.out) hb);have n5_:=Aside0.mk (blk_below (g:=gb422) (o:=.cells #[.slice Ao13 t415.length co13,.slice Ao16 t418.length co16] 43 (0,0)) (by (with_reducible repeat (first|refine blk_drewN ?_ _|refine blk_drew ?_|refine blk_alloc ?_ _));exact BK422.out) hb);have n6_:=Aside0.mk (below_step (by repeat (first|(with_reducible first|exact HB.out|apply below_alloc|apply pw_below_drewN|apply below_drew1|refine below_set ?_ GE414.out|refine below_set ?_ GE422.out)|exact HB.out)) hb);clear HO_415000;clear HO_415001;clear HO_423000;clear HO_423001;clear BK414;clear BK422;clear HB;have HO_415000:=n0_;have HO_415001:=n1_;have HO_423000:=n2_;have HO_423001:=n3_;have BK414:=n4_;have BK422:=n5_;have HB:=n6_;clear n0_ n1_ n2_ n3_ n4_ n5_ n6_;(try clear hb);(try clear hb2);(try clear hk);(try clear hi);have hcz37_0:w36.cell? ⟨gb422,0,none⟩ = some (.slice Ao13 t415.length co13):=(blk_cell BK422.out 0).trans rfl;have hcz37_1:w36.cell? ⟨gb422,1,none⟩ = some (.slice Ao16 t418.length co16):=(blk_cell BK422.out 1).trans rfl;have hfz37_0:=blk_frozen BK422.out 0;have hfz37_1:=blk_frozen BK422.out 1)|(go_at_call 27;(with_reducible refine (impl_set_has.calls _ _ t415 _ _ t418 x37_2 false _ ?side1 ?side2 ?side3 ?side4 A27.out).mono ?_);(case side1=>repeat (first|exact (Kd.R_reads' HO_423000.out).2.2|(with_reducible refine Kd.C_alloc ?_ _)|(with_reducible refine Kd.C_drewN ?_ _)|(with_reducible refine Kd.C_drew ?_)));(case side2=>exact (Kd.R_reads' HO_423000.out).2.1);(case side3=>repeat (first|exact (Kd.R_reads' HO_423001.out).2.2|(with_reducible refine Kd.C_alloc ?_ _)|(with_reducible refine Kd.C_drewN ?_ _)|(with_reducible refine Kd.C_drew ?_)));(case side4=>exact (Kd.R_reads' HO_423001.out).2.1);rintro e w38 ⟨rfl,hb⟩;have n0_:=Aside0.mk (Kd.R_below (by (with_reducible repeat (first|apply Kd.R_alloc|apply Kd.R_drewN|apply Kd.R_drew));exact HO_415000.out) hb);have n1_:=Aside0.mk (Kd.R_below (by (with_reducible repeat (first|apply Kd.R_alloc|apply Kd.R_drewN|apply Kd.R_drew));exact HO_415001.out) hb);have n2_:=Aside0.mk (Kd.R_below (by (with_reducible repeat (first|apply Kd.R_alloc|apply Kd.R_drewN|apply Kd.R_drew));exact HO_423000.out) hb);have n3_:=Aside0.mk (Kd.R_below (by (with_reducible repeat (first|apply Kd.R_alloc|apply Kd.R_drewN|apply Kd.R_drew));exact HO_423001.out) hb);have n4_:=Aside0.mk (blk_below (g:=gb414) (o:=.cells #[.slice Ao8 t407.length co8,.slice Ao10 t410.length co10] 43 (0,0)) (by (with_reducible repeat (first|refine blk_drewN ?_ _|refine blk_drew ?_|refine blk_alloc ?_ _));exact BK414.out) hb);have n5_:=Aside0.mk (blk_below (g:=gb422) (o:=.cells #[.slice Ao13 t415.length co13,.slice Ao16 t418.length co16] 43 (0,0)) (by (with_reducible repeat (first|refine blk_drewN ?_ _|refine blk_drew ?_|refine blk_alloc ?_ _));exact BK422.out) hb);have n6_:=Aside0.mk (below_step (by repeat (first|(with_reducible first|exact HB.out|apply below_alloc|apply pw_below_drewN|apply below_drew1|refine below_set ?_ GE414.out|refine below_set ?_ GE422.out)|exact HB.out)) hb);clear HO_415000;clear HO_415001;clear HO_423000;clear HO_423001;clear BK414;clear BK422;clear HB;have HO_415000:=n0_;have HO_415001:=n1_;have HO_423000:=n2_;have HO_423001:=n3_;have BK414:=n4_;have BK422:=n5_;have HB:=n6_;clear n0_ n1_ n2_ n3_ n4_ n5_ n6_;(try clear hb);(try clear hb2);(try clear hk);(try clear hi)))
         go_ret
         exact ⟨by first|rfl|(simp [errW_none,errW_some] <;> rfl)|(simp [*,errW_none,errW_some] <;> rfl)|(simp [errW_none,errW_some];exact ⟨rfl,rfl⟩),by repeat (first|(with_reducible first|exact HB.out|apply below_alloc|apply pw_below_drewN|apply below_drew1|refine below_set ?_ GE414.out|refine below_set ?_ GE422.out)|exact HB.out)⟩
       ·replace c26:=Bool.eq_false_iff.mpr c26
        subst c26
        have H1:(impl_SetBelow.l0 k2 (wrap64 (t423 + t424)) (wrap64 (x37_2 + 1)) t407 t410 t415 t418) = some r:=by rw [if_neg (show ¬ (false = true) by decide)] at H;exact H
        clear H
        have H:=H1
        clear H1
        have H':=Aside0.mk H
        clear H
        have hnb39:=NB414_422.out
        have hnc39:=NB422_414.out
        have hcz40_0:wr.cell? ⟨gb414,0,none⟩ = some (.slice Ao8 t407.length co8):=(blk_cell BK414.out 0).trans rfl
        have hcz40_1:wr.cell? ⟨gb414,1,none⟩ = some (.slice Ao10 t410.length co10):=(blk_cell BK414.out 1).trans rfl
        have hfz40_0:=blk_frozen BK414.out 0
        have hfz40_1:=blk_frozen BK414.out 1
        go_wp2_with (first|((with_reducible refine gate_callee (f:=27) rfl ?_);refine goesL_ (some 42) rfl rfl Try.func27 (by kernel_rfl) rfl #[.agg #[.slice Ao8 t407.length co8,.slice Ao10 t410.length co10],.int .i64 x37_2] rfl (by (try simp only [List.map_toArray,List.map_cons,List.map_nil]);first|done|rfl|(simp only [List.length_drop,List.length_take];rfl)) ?_;(with_reducible refine (impl_set_has.calls _ _ t407 _ _ t410 x37_2 false _ ?side1 ?side2 ?side3 ?side4 A25.out).mono ?_);(case side1=>repeat (first|exact (Kd.R_reads' HO_415000.out).2.2|(with_reducible refine Kd.C_alloc ?_ _)|(with_reducible refine Kd.C_drewN ?_ _)|(with_reducible refine Kd.C_drew ?_)));(case side2=>exact (Kd.R_reads' HO_415000.out).2.1);(case side3=>repeat (first|exact (Kd.R_reads' HO_415001.out).2.2|(with_reducible refine Kd.C_alloc ?_ _)|(with_reducible refine Kd.C_drewN ?_ _)|(with_reducible refine Kd.C_drew ?_)));(case side4=>exact (Kd.R_reads' HO_415001.out).2.1);rintro e w41 ⟨rfl,hb⟩;refine ⟨_,rfl,?_⟩;have n0_:=Aside0.mk (Kd.R_below (by (with_reducible repeat (first|apply Kd.R_alloc|apply Kd.R_drewN|apply Kd.R_drew));exact HO_415000.out) hb);have n1_:=Aside0.mk (Kd.R_below (by (with_reducible repeat (first|apply Kd.R_alloc|apply Kd.R_drewN|apply Kd.R_drew));exact HO_415001.out) hb);have n2_:=Aside0.mk (Kd.R_below (by (with_reducible repeat (first|apply Kd.R_alloc|apply Kd.R_drewN|apply Kd.R_drew));exact HO_423000.out) hb);have n3_:=Aside0.mk (Kd.R_below (by (with_reducible repeat (first|apply Kd.R_alloc|apply Kd.R_drewN|apply Kd.R_drew));exact HO_423001.out) hb);have n4_:=Aside0.mk (blk_below (g:=gb414) (o:=.cells #[.slice Ao8 t407.length co8,.slice Ao10 t410.length co10] 43 (0,0)) (by (with_reducible repeat (first|refine blk_drewN ?_ _|refine blk_drew ?_|refine blk_alloc ?_ _));exact BK414.out) hb);have n5_:=Aside0.mk (blk_below (g:=gb422) (o:=.cells #[.slice Ao13 t415.length co13,.slice Ao16 t418.length co16] 43 (0,0)) (by (with_reducible repeat (first|refine blk_drewN ?_ _|refine blk_drew ?_|refine blk_alloc ?_ _));exact BK422.out) hb);have n6_:=Aside0.mk (below_step (by repeat (first|(with_reducible first|exact HB.out|apply below_alloc|apply pw_below_drewN|apply below_drew1|refine below_set ?_ GE414.out|refine below_set ?_ GE422.out)|exact HB.out)) hb);clear HO_415000;clear HO_415001;clear HO_423000;clear HO_423001;clear BK414;clear BK422;clear HB;have HO_415000:=n0_;have HO_415001:=n1_;have HO_423000:=n2_;have HO_423001:=n3_;have BK414:=n4_;have BK422:=n5_;have HB:=n6_;clear n0_ n1_ n2_ n3_ n4_ n5_ n6_;(try clear hb);(try clear hb2);(try clear hk);(try clear hi)))
        go_roundg k2
        case measure=>have:=HJ4.out;have:=HK2.out;omega
        case rel=>exact ⟨(wrap64 (x37_2 + 1)),(by first|rfl|(simp;done)|(simp [*];done)|(simp [Int.tmod_eq_emod_of_nonneg];done)),H',⟨by have:=HJ4.out;have:=HK2.out;omega⟩,⟨by (with_reducible repeat (first|apply Kd.R_alloc|apply Kd.R_drewN|apply Kd.R_drew));exact HO_415000.out⟩,⟨by (with_reducible repeat (first|apply Kd.R_alloc|apply Kd.R_drewN|apply Kd.R_drew));exact HO_415001.out⟩,⟨by (with_reducible repeat (first|apply Kd.R_alloc|apply Kd.R_drewN|apply Kd.R_drew));exact HO_423000.out⟩,⟨by (with_reducible repeat (first|apply Kd.R_alloc|apply Kd.R_drewN|apply Kd.R_drew));exact HO_423001.out⟩,⟨by (with_reducible repeat (first|refine blk_drewN ?_ _|refine blk_drew ?_|refine blk_alloc ?_ _));exact BK414.out⟩,⟨by (with_reducible repeat (first|refine blk_drewN ?_ _|refine blk_drew ?_|refine blk_alloc ?_ _));exact BK422.out⟩,⟨by repeat (first|(with_reducible first|exact HB.out|apply below_alloc|apply pw_below_drewN|apply below_drew1|refine below_set ?_ GE414.out|refine below_set ?_ GE422.out)|exact HB.out)⟩⟩
      ·rw [if_neg c24] at H
       have c24b0:decide (x37_2 < (wrap64 (t423 + t424))) = false:=decide_eq_false c24
       clear c24
       obtain rfl:=Option.some.inj H
       go_wp2
       go_ret
       exact ⟨by first|rfl|(simp [errW_none,errW_some] <;> rfl)|(simp [*,errW_none,errW_some] <;> rfl)|(simp [errW_none,errW_some];exact ⟨rfl,rfl⟩),by repeat (first|(with_reducible first|exact HB.out|apply below_alloc|apply pw_below_drewN|apply below_drew1|refine below_set ?_ GE414.out|refine below_set ?_ GE422.out)|exact HB.out)⟩

end Go.Proofs.Yticdcfgjpopkoaa.P

namespace Go.Proofs.Yticdcfgjpopkoaa.P
open Go.RowKit Go.Proofs.YticdcfgjpopkoaaW.PrintWords Go.Proofs.YticdcfgjpopkoaaW.PrintLast Go.Proofs.YticdcfgjpopkoaaW.PrintMore
attribute [local go_sem] max2_int min2_int max_two min_two max_three min_three max_four min_four   -- for this text's walks alone
set_option linter.unusedVariables false
set_option linter.unusedSimpArgs false

/-! ### spec_DrawStarOf: function 6 -/
def spec_DrawStarOf.f (k:Nat) (l0:List Int):Option (ByteArray):=(spec_l6Open.f l0).bind fun bt131=>((spec_l91Set.f k bt131.1 bt131.2).bind fun bt134=>(some bt134.1))
theorem spec_DrawStarOf.mono:∀ a0 k,LeO (spec_DrawStarOf.f k a0) (spec_DrawStarOf.f (k + 1) a0):=by
 intro a0 k
 unfold spec_DrawStarOf.f
 repeat' first
   | (with_reducible exact spec_l91Set.mono _ _ _)
   | (with_reducible exact LeO.refl _)
   | (with_reducible exact LeO.none _)
   | (with_reducible refine LeO.ite ?_ ?_)
   | (with_reducible refine LeO.bind ?_ (fun _=>?_))
   | exact spec_l91Set.mono _ _ _
   | exact LeO.none _
   | refine LeO.ite ?_ ?_
   | refine LeO.bind ?_ (fun _=>?_)
set_option maxHeartbeats 8000000 in
set_option maxRecDepth 100000 in
theorem spec_DrawStarOf.calls (k:Nat) (A0:Option Addr) (c0:Nat) (l0:List Int) (r:ByteArray) (w:World) (hr0:Kd.C (Kd.int .u8) w A0 l0.length l0) (hc0:l0.length≤c0) (h:spec_DrawStarOf.f k l0 = some r) :
  Calls Try.prog 6 #[.slice A0 l0.length c0] w fun e w'=>e = .returned (.string r)∧Below w.heap.size w w':=by
 have HR0:=Aside0.mk hr0
 have HC0:=Aside0.mk hc0
 clear hr0 hc0
 have HB:=Aside0.mk (Below.refl w.heap.size w)
 have H:((spec_l6Open.f l0).bind fun bt131=>((spec_l91Set.f k bt131.1 bt131.2).bind fun bt134=>(some bt134.1))) = some r:=h
 clear h
 replace H:=Option.bind_eq_some_iff.mp H
 obtain ⟨⟨t131,t132⟩,A20,H⟩:=H
 replace H:((spec_l91Set.f k t131 t132).bind fun bt134=>(some bt134.1)) = some r:=H
 have A2:=Aside0.mk A20
 clear A20
 replace H:=Option.bind_eq_some_iff.mp H
 obtain ⟨⟨t134,t135⟩,A30,H⟩:=H
 replace H:(some t134) = some r:=H
 have A3:=Aside0.mk A30
 clear A30
 obtain rfl:=Option.some.inj H
 go_enter Try.func6,Try.ntmps6
 go_wp2_with (first|((with_reducible refine gate_callee (f:=20) rfl ?_);refine goesL_ (some 5) rfl rfl Try.func20 (by kernel_rfl) rfl #[.slice A0 l0.length c0] rfl (by (try simp only [List.map_toArray,List.map_cons,List.map_nil]);first|done|rfl|(simp only [List.length_drop,List.length_take];rfl)) ?_;(with_reducible refine (spec_l6Open.calls _ _ l0 t131 t132 w _ ?side1 ?side2 ?side3 A2.out).mono ?_);(case side1=>repeat (first|(with_reducible first|exact HB.out|apply below_alloc|apply pw_below_drewN|apply below_drew1)|exact HB.out));(case side2=>exact HR0.out);(case side3=>exact HC0.out);rintro e w4 ⟨g133,rfl,hi,hb,hb2⟩;refine ⟨_,rfl,?_⟩;have n0_:=Aside0.mk (hb);have n1_:=Aside0.mk (hi);clear HB;have HB:=n0_;have HI133:=n1_;clear n0_ n1_;(try clear hb);(try clear hb2);(try clear hk);(try clear hi))|((with_reducible refine gate_callee (f:=21) rfl ?_);refine goesL_ (some 7) rfl rfl Try.func21 (by kernel_rfl) rfl #[.pointer (some ⟨g133,0,none⟩)] rfl (by (try simp only [List.map_toArray,List.map_cons,List.map_nil]);first|done|rfl|(simp only [List.length_drop,List.length_take];rfl)) ?_;(with_reducible refine (spec_l91Set.calls k g133 t131 t132 t134 t135 w _ ?side1 ?side2 A3.out).mono ?_);(case side1=>repeat (first|(with_reducible first|exact HI133.out|apply IsS67.alloc|apply IsS67.drewN|apply IsS67.drew|apply IsS67.set_1)|exact HI133.out));(case side2=>repeat (first|(with_reducible first|exact HB.out|apply below_alloc|apply pw_below_drewN|apply below_drew1|refine below_set ?_ (IsS67.ge HI133.out))|exact HB.out));rintro e w5 ⟨rfl,hi,hb,hk⟩;refine ⟨_,rfl,?_⟩;have n0_:=Aside0.mk (hb);have n1_:=Aside0.mk (hi);clear HB;clear HI133;have HB:=n0_;have HI133:=n1_;clear n0_ n1_;(try clear hb);(try clear hb2);(try clear hk);(try clear hi)))
 go_ret
 exact ⟨by first|rfl|(simp [errW_none,errW_some] <;> rfl)|(simp [*,errW_none,errW_some] <;> rfl)|(simp [errW_none,errW_some];exact ⟨rfl,rfl⟩),by repeat (first|(with_reducible first|exact HB.out|apply below_alloc|apply pw_below_drewN|apply below_drew1|refine below_set ?_ (IsS67.ge HI133.out))|exact HB.out)⟩

end Go.Proofs.Yticdcfgjpopkoaa.P

namespace Go.Proofs.Yticdcfgjpopkoaa.P
open Go.RowKit Go.Proofs.YticdcfgjpopkoaaW.PrintWords Go.Proofs.YticdcfgjpopkoaaW.PrintLast Go.Proofs.YticdcfgjpopkoaaW.PrintMore
attribute [local go_sem] max2_int min2_int max_two min_two max_three min_three max_four min_four   -- for this text's walks alone
set_option linter.unusedVariables false
set_option linter.unusedSimpArgs false

/-! ### laws_FnStarOf: function 3 -/
mutual
noncomputable def laws_FnStarOf.j0:Nat → ByteArray → ByteArray → Bool → Bool → Option (Bool)
 | 0,_,_,_,_=>none
 | k + 1,x3,x4,x5,x8=>if x8 = true then (laws_FnStarOf.j1 k x3 x4 x8 (!x5)) else (laws_FnStarOf.j1 k x3 x4 x8 true)
noncomputable def laws_FnStarOf.j1:Nat → ByteArray → ByteArray → Bool → Bool → Option (Bool)
 | 0,_,_,_,_=>none
 | k + 1,x3,x4,x8,x41=>if x41 = true then (some x8) else (laws_FnStarOf.l0 k x3 x4 0)
noncomputable def laws_FnStarOf.l0:Nat → ByteArray → ByteArray → Int → Option (Bool)
 | 0,_,_,_=>none
 | k + 1,x3,x4,x9=>if x9≤40 then (laws_FnStarOf.l1 k x3 x4 x9 0) else ((impl_StarOf.f x4).bind fun bt432=>((impl_SetHas.f k x4 0).bind fun t434=>(if t434 = true then ((impl_SetBelow.f k x3 x4).bind fun t435=>(if t435 = true then (if bt432.2 = true then (some (bt432.1.toList == x4.toList)) else (some true)) else (some false))) else (some false))))
noncomputable def laws_FnStarOf.l1:Nat → ByteArray → ByteArray → Int → Int → Option (Bool)
 | 0,_,_,_,_=>none
 | k + 1,x3,x4,x9,x10=>if x10≤x9 then ((impl_SetHas.f k x4 x10).bind fun t436=>(if t436 = true then ((impl_SetHas.f k x4 (wrap64 (x9 - x10))).bind fun t437=>(if t437 = true then ((impl_SetHas.f k x4 x9).bind fun t438=>(if t438 = true then (laws_FnStarOf.l1 k x3 x4 x9 (wrap64 (x10 + 1))) else (some false))) else (laws_FnStarOf.l1 k x3 x4 x9 (wrap64 (x10 + 1))))) else (laws_FnStarOf.l1 k x3 x4 x9 (wrap64 (x10 + 1))))) else (laws_FnStarOf.l0 k x3 x4 (wrap64 (x9 + 1)))
end
noncomputable def laws_FnStarOf.f (k:Nat) (l0:List Int):Option (Bool):=if (l0.length:Int) > 1048576 then (some true) else ((spec_DrawStarOf.f k l0).bind fun t427=>((impl_StarOf.f t427).bind fun bt428=>((spec_StarOf.f k t427).bind fun bt430=>(if bt428.1.toList = bt430.1.toList then (laws_FnStarOf.j0 k t427 bt428.1 bt428.2 (bt428.2 == bt430.2)) else (laws_FnStarOf.j0 k t427 bt428.1 bt428.2 false)))))
theorem laws_FnStarOf.mono_l:∀ k,(∀ y0 y1 y2 y3,LeO (laws_FnStarOf.j0 k y0 y1 y2 y3) (laws_FnStarOf.j0 (k + 1) y0 y1 y2 y3))∧(∀ y0 y1 y2 y3,LeO (laws_FnStarOf.j1 k y0 y1 y2 y3) (laws_FnStarOf.j1 (k + 1) y0 y1 y2 y3))∧(∀ y0 y1 y2,LeO (laws_FnStarOf.l0 k y0 y1 y2) (laws_FnStarOf.l0 (k + 1) y0 y1 y2))∧(∀ y0 y1 y2 y3,LeO (laws_FnStarOf.l1 k y0 y1 y2 y3) (laws_FnStarOf.l1 (k + 1) y0 y1 y2 y3))
 | 0=>⟨fun _ _ _ _ r h=>by simp [laws_FnStarOf.j0] at h,fun _ _ _ _ r h=>by simp [laws_FnStarOf.j1] at h,fun _ _ _ r h=>by simp [laws_FnStarOf.l0] at h,fun _ _ _ _ r h=>by simp [laws_FnStarOf.l1] at h⟩
 | k + 1=>by
  obtain ⟨ih0,ih1,ih2,ih3⟩:=laws_FnStarOf.mono_l k
  refine ⟨?_,?_,?_,?_⟩
  ·intro y0 y1 y2 y3
   unfold laws_FnStarOf.j0
   repeat' first
   | (with_reducible exact ih0 _ _ _ _)
   | (with_reducible exact ih1 _ _ _ _)
   | (with_reducible exact ih2 _ _ _)
   | (with_reducible exact ih3 _ _ _ _)
   | (with_reducible exact impl_SetBelow.mono _ _ _)
   | (with_reducible exact impl_SetHas.mono _ _ _)
   | (with_reducible exact spec_DrawStarOf.mono _ _)
   | (with_reducible exact spec_StarOf.mono _ _)
   | (with_reducible exact LeO.refl _)
   | (with_reducible exact LeO.none _)
   | (with_reducible refine LeO.ite ?_ ?_)
   | (with_reducible refine LeO.bind ?_ (fun _=>?_))
   | exact ih0 _ _ _ _
   | exact ih1 _ _ _ _
   | exact ih2 _ _ _
   | exact ih3 _ _ _ _
   | exact impl_SetBelow.mono _ _ _
   | exact impl_SetHas.mono _ _ _
   | exact spec_DrawStarOf.mono _ _
   | exact spec_StarOf.mono _ _
   | exact LeO.none _
   | refine LeO.ite ?_ ?_
   | refine LeO.bind ?_ (fun _=>?_)
  ·intro y0 y1 y2 y3
   unfold laws_FnStarOf.j1
   repeat' first
   | (with_reducible exact ih0 _ _ _ _)
   | (with_reducible exact ih1 _ _ _ _)
   | (with_reducible exact ih2 _ _ _)
   | (with_reducible exact ih3 _ _ _ _)
   | (with_reducible exact impl_SetBelow.mono _ _ _)
   | (with_reducible exact impl_SetHas.mono _ _ _)
   | (with_reducible exact spec_DrawStarOf.mono _ _)
   | (with_reducible exact spec_StarOf.mono _ _)
   | (with_reducible exact LeO.refl _)
   | (with_reducible exact LeO.none _)
   | (with_reducible refine LeO.ite ?_ ?_)
   | (with_reducible refine LeO.bind ?_ (fun _=>?_))
   | exact ih0 _ _ _ _
   | exact ih1 _ _ _ _
   | exact ih2 _ _ _
   | exact ih3 _ _ _ _
   | exact impl_SetBelow.mono _ _ _
   | exact impl_SetHas.mono _ _ _
   | exact spec_DrawStarOf.mono _ _
   | exact spec_StarOf.mono _ _
   | exact LeO.none _
   | refine LeO.ite ?_ ?_
   | refine LeO.bind ?_ (fun _=>?_)
  ·intro y0 y1 y2
   unfold laws_FnStarOf.l0
   repeat' first
   | (with_reducible exact ih0 _ _ _ _)
   | (with_reducible exact ih1 _ _ _ _)
   | (with_reducible exact ih2 _ _ _)
   | (with_reducible exact ih3 _ _ _ _)
   | (with_reducible exact impl_SetBelow.mono _ _ _)
   | (with_reducible exact impl_SetHas.mono _ _ _)
   | (with_reducible exact spec_DrawStarOf.mono _ _)
   | (with_reducible exact spec_StarOf.mono _ _)
   | (with_reducible exact LeO.refl _)
   | (with_reducible exact LeO.none _)
   | (with_reducible refine LeO.ite ?_ ?_)
   | (with_reducible refine LeO.bind ?_ (fun _=>?_))
   | exact ih0 _ _ _ _
   | exact ih1 _ _ _ _
   | exact ih2 _ _ _
   | exact ih3 _ _ _ _
   | exact impl_SetBelow.mono _ _ _
   | exact impl_SetHas.mono _ _ _
   | exact spec_DrawStarOf.mono _ _
   | exact spec_StarOf.mono _ _
   | exact LeO.none _
   | refine LeO.ite ?_ ?_
   | refine LeO.bind ?_ (fun _=>?_)
  ·intro y0 y1 y2 y3
   unfold laws_FnStarOf.l1
   repeat' first
   | (with_reducible exact ih0 _ _ _ _)
   | (with_reducible exact ih1 _ _ _ _)
   | (with_reducible exact ih2 _ _ _)
   | (with_reducible exact ih3 _ _ _ _)
   | (with_reducible exact impl_SetBelow.mono _ _ _)
   | (with_reducible exact impl_SetHas.mono _ _ _)
   | (with_reducible exact spec_DrawStarOf.mono _ _)
   | (with_reducible exact spec_StarOf.mono _ _)
   | (with_reducible exact LeO.refl _)
   | (with_reducible exact LeO.none _)
   | (with_reducible refine LeO.ite ?_ ?_)
   | (with_reducible refine LeO.bind ?_ (fun _=>?_))
   | exact ih0 _ _ _ _
   | exact ih1 _ _ _ _
   | exact ih2 _ _ _
   | exact ih3 _ _ _ _
   | exact impl_SetBelow.mono _ _ _
   | exact impl_SetHas.mono _ _ _
   | exact spec_DrawStarOf.mono _ _
   | exact spec_StarOf.mono _ _
   | exact LeO.none _
   | refine LeO.ite ?_ ?_
   | refine LeO.bind ?_ (fun _=>?_)
theorem laws_FnStarOf.mono:∀ a0 k,LeO (laws_FnStarOf.f k a0) (laws_FnStarOf.f (k + 1) a0):=by
 intro a0 k
 obtain ⟨ih0,ih1,ih2,ih3⟩:=laws_FnStarOf.mono_l k
 unfold laws_FnStarOf.f
 repeat' first
   | (with_reducible exact ih0 _ _ _ _)
   | (with_reducible exact ih1 _ _ _ _)
   | (with_reducible exact ih2 _ _ _)
   | (with_reducible exact ih3 _ _ _ _)
   | (with_reducible exact impl_SetBelow.mono _ _ _)
   | (with_reducible exact impl_SetHas.mono _ _ _)
   | (with_reducible exact spec_DrawStarOf.mono _ _)
   | (with_reducible exact spec_StarOf.mono _ _)
   | (with_reducible exact LeO.refl _)
   | (with_reducible exact LeO.none _)
   | (with_reducible refine LeO.ite ?_ ?_)
   | (with_reducible refine LeO.bind ?_ (fun _=>?_))
   | exact ih0 _ _ _ _
   | exact ih1 _ _ _ _
   | exact ih2 _ _ _
   | exact ih3 _ _ _ _
   | exact impl_SetBelow.mono _ _ _
   | exact impl_SetHas.mono _ _ _
   | exact spec_DrawStarOf.mono _ _
   | exact spec_StarOf.mono _ _
   | exact LeO.none _
   | refine LeO.ite ?_ ?_
   | refine LeO.bind ?_ (fun _=>?_)
set_option maxHeartbeats 8000000 in
set_option maxRecDepth 100000 in
theorem laws_FnStarOf.calls (k:Nat) (A0:Option Addr) (c0:Nat) (l0:List Int) (r:Bool) (w:World) (hr0:Kd.C (Kd.int .u8) w A0 l0.length l0) (hc0:l0.length≤c0) (h:laws_FnStarOf.f k l0 = some r) :
  Calls Try.prog 3 #[.slice A0 l0.length c0] w fun e w'=>e = .returned (.bool r)∧Below w.heap.size w w':=by
 have HR0:=Aside0.mk hr0
 have HC0:=Aside0.mk hc0
 clear hr0 hc0
 have HB:=Aside0.mk (Below.refl w.heap.size w)
 have H:(if (l0.length:Int) > 1048576 then (some true) else ((spec_DrawStarOf.f k l0).bind fun t427=>((impl_StarOf.f t427).bind fun bt428=>((spec_StarOf.f k t427).bind fun bt430=>(if bt428.1.toList = bt430.1.toList then (laws_FnStarOf.j0 k t427 bt428.1 bt428.2 (bt428.2 == bt430.2)) else (laws_FnStarOf.j0 k t427 bt428.1 bt428.2 false)))))) = some r:=h
 clear h
 by_cases c2:(l0.length:Int) > 1048576
 ·rw [if_pos c2] at H
  have c2b0:decide (1048576 < (l0.length:Int)) = true:=decide_eq_true c2
  have c2b1:decide (1048576 < l0.length) = true:=decide_eq_true (by omega)
  clear c2
  obtain rfl:=Option.some.inj H
  go_enter Try.func3,Try.ntmps3
  go_wp2
  go_ret
  exact ⟨by first|rfl|(simp [errW_none,errW_some] <;> rfl)|(simp [*,errW_none,errW_some] <;> rfl)|(simp [errW_none,errW_some];exact ⟨rfl,rfl⟩),by repeat (first|(with_reducible first|exact HB.out|apply below_alloc|apply pw_below_drewN|apply below_drew1)|exact HB.out)⟩
 ·rw [if_neg c2] at H
  have c2b0:decide (1048576 < (l0.length:Int)) = false:=decide_eq_false c2
  have c2b1:decide (1048576 < l0.length) = false:=decide_eq_false (by omega)
  clear c2
  replace H:=Option.bind_eq_some_iff.mp H
  obtain ⟨t427,A30,H⟩:=H
  replace H:((impl_StarOf.f t427).bind fun bt428=>((spec_StarOf.f k t427).bind fun bt430=>(if bt428.1.toList = bt430.1.toList then (laws_FnStarOf.j0 k t427 bt428.1 bt428.2 (bt428.2 == bt430.2)) else (laws_FnStarOf.j0 k t427 bt428.1 bt428.2 false)))) = some r:=H
  have A3:=Aside0.mk A30
  clear A30
  replace H:=Option.bind_eq_some_iff.mp H
  obtain ⟨⟨t428,t429⟩,A40,H⟩:=H
  replace H:((spec_StarOf.f k t427).bind fun bt430=>(if t428.toList = bt430.1.toList then (laws_FnStarOf.j0 k t427 t428 t429 (t429 == bt430.2)) else (laws_FnStarOf.j0 k t427 t428 t429 false))) = some r:=H
  have A4:=Aside0.mk A40
  clear A40
  replace H:=Option.bind_eq_some_iff.mp H
  obtain ⟨⟨t430,t431⟩,A50,H⟩:=H
  replace H:(if t428.toList = t430.toList then (laws_FnStarOf.j0 k t427 t428 t429 (t429 == t431)) else (laws_FnStarOf.j0 k t427 t428 t429 false)) = some r:=H
  have A5:=Aside0.mk A50
  clear A50
  have HC6:=Aside0.mk H
  clear H
  go_enter Try.func3,Try.ntmps3
  go_upto_region 6 with (first|((with_reducible refine gate_callee (f:=6) rfl ?_);refine goesL_ (some 17) rfl rfl Try.func6 (by kernel_rfl) rfl #[.slice A0 l0.length c0] rfl (by (try simp only [List.map_toArray,List.map_cons,List.map_nil]);first|done|rfl|(simp only [List.length_drop,List.length_take];rfl)) ?_;(with_reducible refine (spec_DrawStarOf.calls k _ _ l0 t427 _ ?side1 ?side2 A3.out).mono ?_);(case side1=>repeat (first|exact HR0.out|(with_reducible refine Kd.C_alloc ?_ _)|(with_reducible refine Kd.C_drewN ?_ _)|(with_reducible refine Kd.C_drew ?_)));(case side2=>exact HC0.out);rintro e w7 ⟨rfl,hb⟩;refine ⟨_,rfl,?_⟩;have n0_:=Aside0.mk (below_step (by repeat (first|(with_reducible first|exact HB.out|apply below_alloc|apply pw_below_drewN|apply below_drew1)|exact HB.out)) hb);clear HB;have HB:=n0_;clear n0_;(try clear hb);(try clear hb2);(try clear hk);(try clear hi))|((with_reducible refine gate_callee (f:=7) rfl ?_);refine goesL_ (some 20) rfl rfl Try.func7 (by kernel_rfl) rfl #[.string t427] rfl (by (try simp only [List.map_toArray,List.map_cons,List.map_nil]);first|done|rfl|(simp only [List.length_drop,List.length_take];rfl)) ?_;(with_reducible refine (impl_StarOf.calls t427 t428 t429 _ A4.out).mono ?_);rintro e w8 ⟨rfl,hb⟩;refine ⟨_,rfl,?_⟩;have n0_:=Aside0.mk (below_step (by repeat (first|(with_reducible first|exact HB.out|apply below_alloc|apply pw_below_drewN|apply below_drew1)|exact HB.out)) hb);clear HB;have HB:=n0_;clear n0_;(try clear hb);(try clear hb2);(try clear hk);(try clear hi))|((with_reducible refine gate_callee (f:=8) rfl ?_);refine goesL_ (some 25) rfl rfl Try.func8 (by kernel_rfl) rfl #[.string t427] rfl (by (try simp only [List.map_toArray,List.map_cons,List.map_nil]);first|done|rfl|(simp only [List.length_drop,List.length_take];rfl)) ?_;(with_reducible refine (spec_StarOf.calls k t427 t430 t431 _ A5.out).mono ?_);rintro e w9 ⟨rfl,hb⟩;refine ⟨_,rfl,?_⟩;have n0_:=Aside0.mk (below_step (by repeat (first|(with_reducible first|exact HB.out|apply below_alloc|apply pw_below_drewN|apply below_drew1)|exact HB.out)) hb);clear HB;have HB:=n0_;clear n0_;(try clear hb);(try clear hb2);(try clear hk);(try clear hi)))
  (try simp only [Act.put,List.setIfInBounds_toArray,List.set_cons_zero,List.set_cons_succ])
  go_cut [8] (fun v8 wc=>∃ (kq:Nat) (x8_5:Bool),v8 = .bool x8_5∧Aside0 (laws_FnStarOf.j0 kq t427 t428 t429 x8_5 = some r)∧Aside0 (kq≤k)∧Aside0 (Below w.heap.size w wc))
  case first =>
   have H:=HC6.out
   clear HC6
   by_cases c10:t428.toList = t430.toList
   ·rw [if_pos c10] at H
    have c10b0:(t428.toList == t430.toList) = true:=beq_iff_eq.mpr c10
    have c10b1:(t428.toList != t430.toList) = false:=bne_eq_false_iff_eq.mpr c10
    clear c10
    (first|rw [c10b0]|(simp only [i64_w,i32_w];rw [c10b0])|skip)
    have H':=Aside0.mk H
    clear H
    go_wp2
    go_meet
    case rel=>exact ⟨_,((t429 == t431)),(by first|rfl|(simp;done)|(simp [*];done)|(simp [Int.tmod_eq_emod_of_nonneg];done)),H',⟨by first|omega|exact Nat.le_refl _⟩,⟨by repeat (first|(with_reducible first|exact HB.out|apply below_alloc|apply pw_below_drewN|apply below_drew1)|exact HB.out)⟩⟩
   ·rw [if_neg c10] at H
    have c10b0:(t428.toList == t430.toList) = false:=beq_eq_false_iff_ne.mpr c10
    have c10b1:(t428.toList != t430.toList) = true:=bne_iff_ne.mpr c10
    (first|rw [c10b0]|(simp only [i64_w,i32_w];rw [c10b0])|skip)
    have H':=Aside0.mk H
    clear H
    go_wp2
    go_meet
    case rel=>exact ⟨_,(false),(by first|rfl|(simp;done)|(simp [*];done)|(simp [Int.tmod_eq_emod_of_nonneg];done)),H',⟨by first|omega|exact Nat.le_refl _⟩,⟨by repeat (first|(with_reducible first|exact HB.out|apply below_alloc|apply pw_below_drewN|apply below_drew1)|exact HB.out)⟩⟩
  case rest =>
   clear HC6
   try clear c1
   try clear c2
   try clear c2b0
   try clear c2b1
   try clear p2
   try clear c3
   try clear c6
   try clear c7
   try clear c8
   try clear c10
   try clear c10b0
   try clear c10b1
   obtain ⟨kq,x8_5,rfl,HA,HJ5,HB⟩:=hcut
   cases kq with
   | zero=>exact absurd HA.out (by simp [laws_FnStarOf.j0])
   | succ kj5 =>
    have H:=HA.out
    clear HA
    simp only [laws_FnStarOf.j0] at H
    have HC11:=Aside0.mk H
    clear H
    go_upto_region 7 with (fail)
    go_cut [41] (fun v41 wc=>∃ (kq:Nat) (x41_10:Bool),v41 = .bool x41_10∧Aside0 (laws_FnStarOf.j1 kq t427 t428 x8_5 x41_10 = some r)∧Aside0 (kq≤kj5)∧Aside0 (Below w.heap.size w wc))
    case first =>
     have H:=HC11.out
     clear HC11
     by_cases c12:x8_5 = true
     ·subst c12
      have H1:(laws_FnStarOf.j1 kj5 t427 t428 true (!t429)) = some r:=by rw [if_pos rfl] at H;exact H
      clear H
      have H:=H1
      clear H1
      have H':=Aside0.mk H
      clear H
      go_wp2
      go_meet
      case rel=>exact ⟨_,(!t429),(by first|rfl|(simp;done)|(simp [*];done)|(simp [Int.tmod_eq_emod_of_nonneg];done)),H',⟨by have:=HJ5.out;first|omega|exact Nat.le_refl _⟩,⟨by repeat (first|(with_reducible first|exact HB.out|apply below_alloc|apply pw_below_drewN|apply below_drew1)|exact HB.out)⟩⟩
     ·replace c12:=Bool.eq_false_iff.mpr c12
      subst c12
      have H1:(laws_FnStarOf.j1 kj5 t427 t428 false true) = some r:=by rw [if_neg (show ¬ (false = true) by decide)] at H;exact H
      clear H
      have H:=H1
      clear H1
      have H':=Aside0.mk H
      clear H
      go_wp2
      go_meet
      case rel=>exact ⟨_,(true),(by first|rfl|(simp;done)|(simp [*];done)|(simp [Int.tmod_eq_emod_of_nonneg];done)),H',⟨by have:=HJ5.out;first|omega|exact Nat.le_refl _⟩,⟨by repeat (first|(with_reducible first|exact HB.out|apply below_alloc|apply pw_below_drewN|apply below_drew1)|exact HB.out)⟩⟩
    case rest =>
     clear HC11
     try clear c1
     try clear c2
     try clear c2b0
     try clear c2b1
     try clear p2
     try clear c3
     try clear c6
     try clear c7
     try clear c8
     try clear c10
     try clear c10b0
     try clear c10b1
     try clear c12
     try clear p2
     obtain ⟨kq,x41_10,rfl,HA,HJ10,HB⟩:=hcut
     cases kq with
     | zero=>exact absurd HA.out (by simp [laws_FnStarOf.j1])
     | succ kj10 =>
      have H:=HA.out
      clear HA
      simp only [laws_FnStarOf.j1] at H
      by_cases c13:x41_10 = true
      ·subst c13
       have H1:(some x8_5) = some r:=by rw [if_pos rfl] at H;exact H
       clear H
       have H:=H1
       clear H1
       obtain rfl:=Option.some.inj H
       go_wp2
       go_ret
       exact ⟨by first|rfl|(simp [errW_none,errW_some] <;> rfl)|(simp [*,errW_none,errW_some] <;> rfl)|(simp [errW_none,errW_some];exact ⟨rfl,rfl⟩),by repeat (first|(with_reducible first|exact HB.out|apply below_alloc|apply pw_below_drewN|apply below_drew1)|exact HB.out)⟩
      ·replace c13:=Bool.eq_false_iff.mpr c13
       subst c13
       have H1:(laws_FnStarOf.l0 kj10 t427 t428 0) = some r:=by rw [if_neg (show ¬ (false = true) by decide)] at H;exact H
       clear H
       have H:=H1
       clear H1
       have H':=Aside0.mk H
       clear H
       go_wp2
       go_loopg [9] kj10 (fun kq v9 w'=>∃ (x9_3:Int),v9 = .int .i64 x9_3∧Aside0 (laws_FnStarOf.l0 kq t427 t428 x9_3 = some r)∧Aside0 (kq≤kj10)∧Aside0 (Below w.heap.size w w'))
       case atStart=>exact ⟨(0),(by first|rfl|(simp;done)|(simp [*];done)|(simp [Int.tmod_eq_emod_of_nonneg];done)),H',⟨Nat.le_refl _⟩,⟨by repeat (first|(with_reducible first|exact HB.out|apply below_alloc|apply pw_below_drewN|apply below_drew1)|exact HB.out)⟩⟩
       case round =>
        clear H'
        try clear c1
        try clear c2
        try clear c2b0
        try clear c2b1
        try clear p2
        try clear c3
        try clear c6
        try clear c7
        try clear c8
        try clear c10
        try clear c10b0
        try clear c10b1
        try clear c12
        try clear c13
        try clear p2
        obtain ⟨x9_3,rfl,HA,HK3,HB⟩:=hrel
        cases gk with
        | zero=>exact absurd HA.out (by simp [laws_FnStarOf.l0])
        | succ k3 =>
         have H:=HA.out
         clear HA
         simp only [laws_FnStarOf.l0] at H
         by_cases c14:x9_3≤40
         ·rw [if_pos c14] at H
          have c14b0:decide (x9_3≤40) = true:=decide_eq_true c14
          clear c14
          have H':=Aside0.mk H
          clear H
          go_wp2
          go_loopg [10] k3 (fun kq v10 w'=>∃ (x10_4:Int),v10 = .int .i64 x10_4∧Aside0 (laws_FnStarOf.l1 kq t427 t428 x9_3 x10_4 = some r)∧Aside0 (kq≤k3)∧Aside0 (Below w.heap.size w w'))
          case atStart=>exact ⟨(0),(by first|rfl|(simp;done)|(simp [*];done)|(simp [Int.tmod_eq_emod_of_nonneg];done)),H',⟨Nat.le_refl _⟩,⟨by repeat (first|(with_reducible first|exact HB.out|apply below_alloc|apply pw_below_drewN|apply below_drew1)|exact HB.out)⟩⟩
          case round =>
           clear H'
           try clear c1
           try clear c2
           try clear c2b0
           try clear c2b1
           try clear p2
           try clear c3
           try clear c6
           try clear c7
           try clear c8
           try clear c10
           try clear c10b0
           try clear c10b1
           try clear c12
           try clear c13
           try clear c14
           try clear c14b0
           try clear p2
           obtain ⟨x10_4,rfl,HA,HK4,HB⟩:=hrel
           cases gk with
           | zero=>exact absurd HA.out (by simp [laws_FnStarOf.l1])
           | succ k4 =>
            have H:=HA.out
            clear HA
            simp only [laws_FnStarOf.l1] at H
            by_cases c15:x10_4≤x9_3
            ·rw [if_pos c15] at H
             have c15b0:decide (x10_4≤x9_3) = true:=decide_eq_true c15
             clear c15
             replace H:=Option.bind_eq_some_iff.mp H
             obtain ⟨t436,A160,H⟩:=H
             replace H:(if t436 = true then ((impl_SetHas.f k4 t428 (wrap64 (x9_3 - x10_4))).bind fun t437=>(if t437 = true then ((impl_SetHas.f k4 t428 x9_3).bind fun t438=>(if t438 = true then (laws_FnStarOf.l1 k4 t427 t428 x9_3 (wrap64 (x10_4 + 1))) else (some false))) else (laws_FnStarOf.l1 k4 t427 t428 x9_3 (wrap64 (x10_4 + 1))))) else (laws_FnStarOf.l1 k4 t427 t428 x9_3 (wrap64 (x10_4 + 1)))) = some r:=H
             have A16:=Aside0.mk A160
             clear A160
             by_cases c17:t436 = true
             ·subst c17
              have H1:((impl_SetHas.f k4 t428 (wrap64 (x9_3 - x10_4))).bind fun t437=>(if t437 = true then ((impl_SetHas.f k4 t428 x9_3).bind fun t438=>(if t438 = true then (laws_FnStarOf.l1 k4 t427 t428 x9_3 (wrap64 (x10_4 + 1))) else (some false))) else (laws_FnStarOf.l1 k4 t427 t428 x9_3 (wrap64 (x10_4 + 1))))) = some r:=by rw [if_pos rfl] at H;exact H
              clear H
              have H:=H1
              clear H1
              replace H:=Option.bind_eq_some_iff.mp H
              obtain ⟨t437,A180,H⟩:=H
              replace H:(if t437 = true then ((impl_SetHas.f k4 t428 x9_3).bind fun t438=>(if t438 = true then (laws_FnStarOf.l1 k4 t427 t428 x9_3 (wrap64 (x10_4 + 1))) else (some false))) else (laws_FnStarOf.l1 k4 t427 t428 x9_3 (wrap64 (x10_4 + 1)))) = some r:=H
              have A18:=Aside0.mk A180
              clear A180
              by_cases c19:t437 = true
              ·subst c19
               have H1:((impl_SetHas.f k4 t428 x9_3).bind fun t438=>(if t438 = true then (laws_FnStarOf.l1 k4 t427 t428 x9_3 (wrap64 (x10_4 + 1))) else (some false))) = some r:=by rw [if_pos rfl] at H;exact H
               clear H
               have H:=H1
               clear H1
               replace H:=Option.bind_eq_some_iff.mp H
               obtain ⟨t438,A200,H⟩:=H
               replace H:(if t438 = true then (laws_FnStarOf.l1 k4 t427 t428 x9_3 (wrap64 (x10_4 + 1))) else (some false)) = some r:=H
               have A20:=Aside0.mk A200
               clear A200
               by_cases c21:t438 = true
               ·subst c21
                have H1:(laws_FnStarOf.l1 k4 t427 t428 x9_3 (wrap64 (x10_4 + 1))) = some r:=by rw [if_pos rfl] at H;exact H
                clear H
                have H:=H1
                clear H1
                have H':=Aside0.mk H
                clear H
                go_wp2_with (first|((with_reducible refine gate_callee (f:=9) rfl ?_);refine goesL_ (some 54) rfl rfl Try.func9 (by kernel_rfl) rfl #[.string t428,.int .i64 x10_4] rfl (by (try simp only [List.map_toArray,List.map_cons,List.map_nil]);first|done|rfl|(simp only [List.length_drop,List.length_take];rfl)) ?_;(with_reducible refine (impl_SetHas.calls k4 t428 x10_4 true _ A16.out).mono ?_);rintro e w22 ⟨rfl,hb⟩;refine ⟨_,rfl,?_⟩;have n0_:=Aside0.mk (below_step (by repeat (first|(with_reducible first|exact HB.out|apply below_alloc|apply pw_below_drewN|apply below_drew1)|exact HB.out)) hb);clear HB;have HB:=n0_;clear n0_;(try clear hb);(try clear hb2);(try clear hk);(try clear hi))|(go_at_call 9;(with_reducible refine (impl_SetHas.calls k4 t428 (wrap64 (x9_3 - x10_4)) true _ A18.out).mono ?_);rintro e w23 ⟨rfl,hb⟩;have n0_:=Aside0.mk (below_step (by repeat (first|(with_reducible first|exact HB.out|apply below_alloc|apply pw_below_drewN|apply below_drew1)|exact HB.out)) hb);clear HB;have HB:=n0_;clear n0_;(try clear hb);(try clear hb2);(try clear hk);(try clear hi))|(go_at_call 9;(with_reducible refine (impl_SetHas.calls k4 t428 x9_3 true _ A20.out).mono ?_);rintro e w24 ⟨rfl,hb⟩;have n0_:=Aside0.mk (below_step (by repeat (first|(with_reducible first|exact HB.out|apply below_alloc|apply pw_below_drewN|apply below_drew1)|exact HB.out)) hb);clear HB;have HB:=n0_;clear n0_;(try clear hb);(try clear hb2);(try clear hk);(try clear hi)))
                go_roundg k4
                case measure=>have:=HJ5.out;have:=HJ10.out;have:=HK3.out;have:=HK4.out;omega
                case rel=>exact ⟨(wrap64 (x10_4 + 1)),(by first|rfl|(simp;done)|(simp [*];done)|(simp [Int.tmod_eq_emod_of_nonneg];done)),H',⟨by have:=HJ5.out;have:=HJ10.out;have:=HK3.out;have:=HK4.out;omega⟩,⟨by repeat (first|(with_reducible first|exact HB.out|apply below_alloc|apply pw_below_drewN|apply below_drew1)|exact HB.out)⟩⟩
               ·replace c21:=Bool.eq_false_iff.mpr c21
                subst c21
                have H1:(some false) = some r:=by rw [if_neg (show ¬ (false = true) by decide)] at H;exact H
                clear H
                have H:=H1
                clear H1
                obtain rfl:=Option.some.inj H
                go_wp2_with (first|((with_reducible refine gate_callee (f:=9) rfl ?_);refine goesL_ (some 54) rfl rfl Try.func9 (by kernel_rfl) rfl #[.string t428,.int .i64 x10_4] rfl (by (try simp only [List.map_toArray,List.map_cons,List.map_nil]);first|done|rfl|(simp only [List.length_drop,List.length_take];rfl)) ?_;(with_reducible refine (impl_SetHas.calls k4 t428 x10_4 true _ A16.out).mono ?_);rintro e w25 ⟨rfl,hb⟩;refine ⟨_,rfl,?_⟩;have n0_:=Aside0.mk (below_step (by repeat (first|(with_reducible first|exact HB.out|apply below_alloc|apply pw_below_drewN|apply below_drew1)|exact HB.out)) hb);clear HB;have HB:=n0_;clear n0_;(try clear hb);(try clear hb2);(try clear hk);(try clear hi))|(go_at_call 9;(with_reducible refine (impl_SetHas.calls k4 t428 (wrap64 (x9_3 - x10_4)) true _ A18.out).mono ?_);rintro e w26 ⟨rfl,hb⟩;have n0_:=Aside0.mk (below_step (by repeat (first|(with_reducible first|exact HB.out|apply below_alloc|apply pw_below_drewN|apply below_drew1)|exact HB.out)) hb);clear HB;have HB:=n0_;clear n0_;(try clear hb);(try clear hb2);(try clear hk);(try clear hi))|(go_at_call 9;(with_reducible refine (impl_SetHas.calls k4 t428 x9_3 false _ A20.out).mono ?_);rintro e w27 ⟨rfl,hb⟩;have n0_:=Aside0.mk (below_step (by repeat (first|(with_reducible first|exact HB.out|apply below_alloc|apply pw_below_drewN|apply below_drew1)|exact HB.out)) hb);clear HB;have HB:=n0_;clear n0_;(try clear hb);(try clear hb2);(try clear hk);(try clear hi)))
                go_ret
                exact ⟨by first|rfl|(simp [errW_none,errW_some] <;> rfl)|(simp [*,errW_none,errW_some] <;> rfl)|(simp [errW_none,errW_some];exact ⟨rfl,rfl⟩),by repeat (first|(with_reducible first|exact HB.out|apply below_alloc|apply pw_below_drewN|apply below_drew1)|exact HB.out)⟩
              ·replace c19:=Bool.eq_false_iff.mpr c19
               subst c19
               have H1:(laws_FnStarOf.l1 k4 t427 t428 x9_3 (wrap64 (x10_4 + 1))) = some r:=by rw [if_neg (show ¬ (false = true) by decide)] at H;exact H
               clear H
               have H:=H1
               clear H1
               have H':=Aside0.mk H
               clear H
               go_wp2_with (first|((with_reducible refine gate_callee (f:=9) rfl ?_);refine goesL_ (some 54) rfl rfl Try.func9 (by kernel_rfl) rfl #[.string t428,.int .i64 x10_4] rfl (by (try simp only [List.map_toArray,List.map_cons,List.map_nil]);first|done|rfl|(simp only [List.length_drop,List.length_take];rfl)) ?_;(with_reducible refine (impl_SetHas.calls k4 t428 x10_4 true _ A16.out).mono ?_);rintro e w28 ⟨rfl,hb⟩;refine ⟨_,rfl,?_⟩;have n0_:=Aside0.mk (below_step (by repeat (first|(with_reducible first|exact HB.out|apply below_alloc|apply pw_below_drewN|apply below_drew1)|exact HB.out)) hb);clear HB;have HB:=n0_;clear n0_;(try clear hb);(try clear hb2);(try clear hk);(try clear hi))|(go_at_call 9;(with_reducible refine (impl_SetHas.calls k4 t428 (wrap64 (x9_3 - x10_4)) false _ A18.out).mono ?_);rintro e w29 ⟨rfl,hb⟩;have n0_:=Aside0.mk (below_step (by repeat (first|(with_reducible first|exact HB.out|apply below_alloc|apply pw_below_drewN|apply below_drew1)|exact HB.out)) hb);clear HB;have HB:=n0_;clear n0_;(try clear hb);(try clear hb2);(try clear hk);(try clear hi)))
               go_roundg k4
               case measure=>have:=HJ5.out;have:=HJ10.out;have:=HK3.out;have:=HK4.out;omega
               case rel=>exact ⟨(wrap64 (x10_4 + 1)),(by first|rfl|(simp;done)|(simp [*];done)|(simp [Int.tmod_eq_emod_of_nonneg];done)),H',⟨by have:=HJ5.out;have:=HJ10.out;have:=HK3.out;have:=HK4.out;omega⟩,⟨by repeat (first|(with_reducible first|exact HB.out|apply below_alloc|apply pw_below_drewN|apply below_drew1)|exact HB.out)⟩⟩
             ·replace c17:=Bool.eq_false_iff.mpr c17
              subst c17
              have H1:(laws_FnStarOf.l1 k4 t427 t428 x9_3 (wrap64 (x10_4 + 1))) = some r:=by rw [if_neg (show ¬ (false = true) by decide)] at H;exact H
              clear H
              have H:=H1
              clear H1
              have H':=Aside0.mk H
              clear H
              go_wp2_with (first|((with_reducible refine gate_callee (f:=9) rfl ?_);refine goesL_ (some 54) rfl rfl Try.func9 (by kernel_rfl) rfl #[.string t428,.int .i64 x10_4] rfl (by (try simp only [List.map_toArray,List.map_cons,List.map_nil]);first|done|rfl|(simp only [List.length_drop,List.length_take];rfl)) ?_;(with_reducible refine (impl_SetHas.calls k4 t428 x10_4 false _ A16.out).mono ?_);rintro e w30 ⟨rfl,hb⟩;refine ⟨_,rfl,?_⟩;have n0_:=Aside0.mk (below_step (by repeat (first|(with_reducible first|exact HB.out|apply below_alloc|apply pw_below_drewN|apply below_drew1)|exact HB.out)) hb);clear HB;have HB:=n0_;clear n0_;(try clear hb);(try clear hb2);(try clear hk);(try clear hi)))
              go_roundg k4
              case measure=>have:=HJ5.out;have:=HJ10.out;have:=HK3.out;have:=HK4.out;omega
              case rel=>exact ⟨(wrap64 (x10_4 + 1)),(by first|rfl|(simp;done)|(simp [*];done)|(simp [Int.tmod_eq_emod_of_nonneg];done)),H',⟨by have:=HJ5.out;have:=HJ10.out;have:=HK3.out;have:=HK4.out;omega⟩,⟨by repeat (first|(with_reducible first|exact HB.out|apply below_alloc|apply pw_below_drewN|apply below_drew1)|exact HB.out)⟩⟩
            ·rw [if_neg c15] at H
             have c15b0:decide (x10_4≤x9_3) = false:=decide_eq_false c15
             clear c15
             have H':=Aside0.mk H
             clear H
             go_wp2
             go_roundg k4
             case measure=>have:=HJ5.out;have:=HJ10.out;have:=HK3.out;have:=HK4.out;omega
             case rel=>exact ⟨(wrap64 (x9_3 + 1)),(by first|rfl|(simp;done)|(simp [*];done)|(simp [Int.tmod_eq_emod_of_nonneg];done)),H',⟨by have:=HJ5.out;have:=HJ10.out;have:=HK3.out;have:=HK4.out;omega⟩,⟨by repeat (first|(with_reducible first|exact HB.out|apply below_alloc|apply pw_below_drewN|apply below_drew1)|exact HB.out)⟩⟩
         ·rw [if_neg c14] at H
          have c14b0:decide (x9_3≤40) = false:=decide_eq_false c14
          clear c14
          replace H:=Option.bind_eq_some_iff.mp H
          obtain ⟨⟨t432,t433⟩,A310,H⟩:=H
          replace H:((impl_SetHas.f k3 t428 0).bind fun t434=>(if t434 = true then ((impl_SetBelow.f k3 t427 t428).bind fun t435=>(if t435 = true then (if t433 = true then (some (t432.toList == t428.toList)) else (some true)) else (some false))) else (some false))) = some r:=H
          have A31:=Aside0.mk A310
          clear A310
          replace H:=Option.bind_eq_some_iff.mp H
          obtain ⟨t434,A320,H⟩:=H
          replace H:(if t434 = true then ((impl_SetBelow.f k3 t427 t428).bind fun t435=>(if t435 = true then (if t433 = true then (some (t432.toList == t428.toList)) else (some true)) else (some false))) else (some false)) = some r:=H
          have A32:=Aside0.mk A320
          clear A320
          by_cases c33:t434 = true
          ·subst c33
           have H1:((impl_SetBelow.f k3 t427 t428).bind fun t435=>(if t435 = true then (if t433 = true then (some (t432.toList == t428.toList)) else (some true)) else (some false))) = some r:=by rw [if_pos rfl] at H;exact H
           clear H
           have H:=H1
           clear H1
           replace H:=Option.bind_eq_some_iff.mp H
           obtain ⟨t435,A340,H⟩:=H
           replace H:(if t435 = true then (if t433 = true then (some (t432.toList == t428.toList)) else (some true)) else (some false)) = some r:=H
           have A34:=Aside0.mk A340
           clear A340
           by_cases c35:t435 = true
           ·subst c35
            have H1:(if t433 = true then (some (t432.toList == t428.toList)) else (some true)) = some r:=by rw [if_pos rfl] at H;exact H
            clear H
            have H:=H1
            clear H1
            by_cases c36:t433 = true
            ·subst c36
             have H1:(some (t432.toList == t428.toList)) = some r:=by rw [if_pos rfl] at H;exact H
             clear H
             have H:=H1
             clear H1
             obtain rfl:=Option.some.inj H
             go_wp2_with (first|((with_reducible refine gate_callee (f:=7) rfl ?_);refine goesL_ (some 70) rfl rfl Try.func7 (by kernel_rfl) rfl #[.string t428] rfl (by (try simp only [List.map_toArray,List.map_cons,List.map_nil]);first|done|rfl|(simp only [List.length_drop,List.length_take];rfl)) ?_;(with_reducible refine (impl_StarOf.calls t428 t432 true _ A31.out).mono ?_);rintro e w37 ⟨rfl,hb⟩;refine ⟨_,rfl,?_⟩;have n0_:=Aside0.mk (below_step (by repeat (first|(with_reducible first|exact HB.out|apply below_alloc|apply pw_below_drewN|apply below_drew1)|exact HB.out)) hb);clear HB;have HB:=n0_;clear n0_;(try clear hb);(try clear hb2);(try clear hk);(try clear hi))|((with_reducible refine gate_callee (f:=9) rfl ?_);refine goesL_ (some 74) rfl rfl Try.func9 (by kernel_rfl) rfl #[.string t428,.int .i64 0] rfl (by (try simp only [List.map_toArray,List.map_cons,List.map_nil]);first|done|rfl|(simp only [List.length_drop,List.length_take];rfl)) ?_;(with_reducible refine (impl_SetHas.calls k3 t428 0 true _ A32.out).mono ?_);rintro e w38 ⟨rfl,hb⟩;refine ⟨_,rfl,?_⟩;have n0_:=Aside0.mk (below_step (by repeat (first|(with_reducible first|exact HB.out|apply below_alloc|apply pw_below_drewN|apply below_drew1)|exact HB.out)) hb);clear HB;have HB:=n0_;clear n0_;(try clear hb);(try clear hb2);(try clear hk);(try clear hi))|(go_at_call 10;(with_reducible refine (impl_SetBelow.calls k3 t427 t428 true _ A34.out).mono ?_);rintro e w39 ⟨rfl,hb⟩;have n0_:=Aside0.mk (below_step (by repeat (first|(with_reducible first|exact HB.out|apply below_alloc|apply pw_below_drewN|apply below_drew1)|exact HB.out)) hb);clear HB;have HB:=n0_;clear n0_;(try clear hb);(try clear hb2);(try clear hk);(try clear hi)))
             go_ret
             exact ⟨by first|rfl|(simp [errW_none,errW_some] <;> rfl)|(simp [*,errW_none,errW_some] <;> rfl)|(simp [errW_none,errW_some];exact ⟨rfl,rfl⟩),by repeat (first|(with_reducible first|exact HB.out|apply below_alloc|apply pw_below_drewN|apply below_drew1)|exact HB.out)⟩
            ·replace c36:=Bool.eq_false_iff.mpr c36
             subst c36
             have H1:(some true) = some r:=by rw [if_neg (show ¬ (false = true) by decide)] at H;exact H
             clear H
             have H:=H1
             clear H1
             obtain rfl:=Option.some.inj H
             go_wp2_with (first|((with_reducible refine gate_callee (f:=7) rfl ?_);refine goesL_ (some 70) rfl rfl Try.func7 (by kernel_rfl) rfl #[.string t428] rfl (by (try simp only [List.map_toArray,List.map_cons,List.map_nil]);first|done|rfl|(simp only [List.length_drop,List.length_take];rfl)) ?_;(with_reducible refine (impl_StarOf.calls t428 t432 false _ A31.out).mono ?_);rintro e w40 ⟨rfl,hb⟩;refine ⟨_,rfl,?_⟩;have n0_:=Aside0.mk (below_step (by repeat (first|(with_reducible first|exact HB.out|apply below_alloc|apply pw_below_drewN|apply below_drew1)|exact HB.out)) hb);clear HB;have HB:=n0_;clear n0_;(try clear hb);(try clear hb2);(try clear hk);(try clear hi))|((with_reducible refine gate_callee (f:=9) rfl ?_);refine goesL_ (some 74) rfl rfl Try.func9 (by kernel_rfl) rfl #[.string t428,.int .i64 0] rfl (by (try simp only [List.map_toArray,List.map_cons,List.map_nil]);first|done|rfl|(simp only [List.length_drop,List.length_take];rfl)) ?_;(with_reducible refine (impl_SetHas.calls k3 t428 0 true _ A32.out).mono ?_);rintro e w41 ⟨rfl,hb⟩;refine ⟨_,rfl,?_⟩;have n0_:=Aside0.mk (below_step (by repeat (first|(with_reducible first|exact HB.out|apply below_alloc|apply pw_below_drewN|apply below_drew1)|exact HB.out)) hb);clear HB;have HB:=n0_;clear n0_;(try clear hb);(try clear hb2);(try clear hk);(try clear hi))|(go_at_call 10;(with_reducible refine (impl_SetBelow.calls k3 t427 t428 true _ A34.out).mono ?_);rintro e w42 ⟨rfl,hb⟩;have n0_:=Aside0.mk (below_step (by repeat (first|(with_reducible first|exact HB.out|apply below_alloc|apply pw_below_drewN|apply below_drew1)|exact HB.out)) hb);clear HB;have HB:=n0_;clear n0_;(try clear hb);(try clear hb2);(try clear hk);(try clear hi)))
             go_ret
             exact ⟨by first|rfl|(simp [errW_none,errW_some] <;> rfl)|(simp [*,errW_none,errW_some] <;> rfl)|(simp [errW_none,errW_some];exact ⟨rfl,rfl⟩),by repeat (first|(with_reducible first|exact HB.out|apply below_alloc|apply pw_below_drewN|apply below_drew1)|exact HB.out)⟩
           ·replace c35:=Bool.eq_false_iff.mpr c35
            subst c35
            have H1:(some false) = some r:=by rw [if_neg (show ¬ (false = true) by decide)] at H;exact H
            clear H
            have H:=H1
            clear H1
            obtain rfl:=Option.some.inj H
            go_wp2_with (first|((with_reducible refine gate_callee (f:=7) rfl ?_);refine goesL_ (some 70) rfl rfl Try.func7 (by kernel_rfl) rfl #[.string t428] rfl (by (try simp only [List.map_toArray,List.map_cons,List.map_nil]);first|done|rfl|(simp only [List.length_drop,List.length_take];rfl)) ?_;(with_reducible refine (impl_StarOf.calls t428 t432 t433 _ A31.out).mono ?_);rintro e w43 ⟨rfl,hb⟩;refine ⟨_,rfl,?_⟩;have n0_:=Aside0.mk (below_step (by repeat (first|(with_reducible first|exact HB.out|apply below_alloc|apply pw_below_drewN|apply below_drew1)|exact HB.out)) hb);clear HB;have HB:=n0_;clear n0_;(try clear hb);(try clear hb2);(try clear hk);(try clear hi))|((with_reducible refine gate_callee (f:=9) rfl ?_);refine goesL_ (some 74) rfl rfl Try.func9 (by kernel_rfl) rfl #[.string t428,.int .i64 0] rfl (by (try simp only [List.map_toArray,List.map_cons,List.map_nil]);first|done|rfl|(simp only [List.length_drop,List.length_take];rfl)) ?_;(with_reducible refine (impl_SetHas.calls k3 t428 0 true _ A32.out).mono ?_);rintro e w44 ⟨rfl,hb⟩;refine ⟨_,rfl,?_⟩;have n0_:=Aside0.mk (below_step (by repeat (first|(with_reducible first|exact HB.out|apply below_alloc|apply pw_below_drewN|apply below_drew1)|exact HB.out)) hb);clear HB;have HB:=n0_;clear n0_;(try clear hb);(try clear hb2);(try clear hk);(try clear hi))|(go_at_call 10;(with_reducible refine (impl_SetBelow.calls k3 t427 t428 false _ A34.out).mono ?_);rintro e w45 ⟨rfl,hb⟩;have n0_:=Aside0.mk (below_step (by repeat (first|(with_reducible first|exact HB.out|apply below_alloc|apply pw_below_drewN|apply below_drew1)|exact HB.out)) hb);clear HB;have HB:=n0_;clear n0_;(try clear hb);(try clear hb2);(try clear hk);(try clear hi)))
            go_ret
            exact ⟨by first|rfl|(simp [errW_none,errW_some] <;> rfl)|(simp [*,errW_none,errW_some] <;> rfl)|(simp [errW_none,errW_some];exact ⟨rfl,rfl⟩),by repeat (first|(with_reducible first|exact HB.out|apply below_alloc|apply pw_below_drewN|apply below_drew1)|exact HB.out)⟩
          ·replace c33:=Bool.eq_false_iff.mpr c33
           subst c33
           have H1:(some false) = some r:=by rw [if_neg (show ¬ (false = true) by decide)] at H;exact H
           clear H
           have H:=H1
           clear H1
           obtain rfl:=Option.some.inj H
           go_wp2_with (first|((with_reducible refine gate_callee (f:=7) rfl ?_);refine goesL_ (some 70) rfl rfl Try.func7 (by kernel_rfl) rfl #[.string t428] rfl (by (try simp only [List.map_toArray,List.map_cons,List.map_nil]);first|done|rfl|(simp only [List.length_drop,List.length_take];rfl)) ?_;(with_reducible refine (impl_StarOf.calls t428 t432 t433 _ A31.out).mono ?_);rintro e w46 ⟨rfl,hb⟩;refine ⟨_,rfl,?_⟩;have n0_:=Aside0.mk (below_step (by repeat (first|(with_reducible first|exact HB.out|apply below_alloc|apply pw_below_drewN|apply below_drew1)|exact HB.out)) hb);clear HB;have HB:=n0_;clear n0_;(try clear hb);(try clear hb2);(try clear hk);(try clear hi))|((with_reducible refine gate_callee (f:=9) rfl ?_);refine goesL_ (some 74) rfl rfl Try.func9 (by kernel_rfl) rfl #[.string t428,.int .i64 0] rfl (by (try simp only [List.map_toArray,List.map_cons,List.map_nil]);first|done|rfl|(simp only [List.length_drop,List.length_take];rfl)) ?_;(with_reducible refine (impl_SetHas.calls k3 t428 0 false _ A32.out).mono ?_);rintro e w47 ⟨rfl,hb⟩;refine ⟨_,rfl,?_⟩;have n0_:=Aside0.mk (below_step (by repeat (first|(with_reducible first|exact HB.out|apply below_alloc|apply pw_below_drewN|apply below_drew1)|exact HB.out)) hb);clear HB;have HB:=n0_;clear n0_;(try clear hb);(try clear hb2);(try clear hk);(try clear hi)))
           go_ret
           exact ⟨by first|rfl|(simp [errW_none,errW_some] <;> rfl)|(simp [*,errW_none,errW_some] <;> rfl)|(simp [errW_none,errW_some];exact ⟨rfl,rfl⟩),by repeat (first|(with_reducible first|exact HB.out|apply below_alloc|apply pw_below_drewN|apply below_drew1)|exact HB.out)⟩

/-- THE ONE PURE STATEMENT of laws_FnStarOf: yours. -/
noncomputable def laws_FnStarOf.Pure:Prop:=∀ (l0:List Int),l0.length≤maxLen → l0.length * 1≤140737488351232 → (∀ x ∈ l0,(Lit.int .u8 x).wf = true) → ∃ k,laws_FnStarOf.f k l0 = some true
theorem laws_FnStarOf.walk (P:laws_FnStarOf.Pure) (a0:Option Addr) (len0 cap0:Nat) (z0:List Int) (w:World) (w0:(a0 = none∧len0 = 0∧cap0 = 0∧z0 = []) ∨ ∃ x,a0 = some x∧len0≤cap0∧cap0≤maxLen∧z0.length = cap0∧(∀ i,i < z0.length → w.cell? (x.add i) = some (.int .u8 (z0.getD i 0)))∧∀ n ∈ z0,(Lit.int .u8 n).wf = true) (y0:len0 * 1≤140737488351232) :
  Calls Try.prog 3 #[.slice a0 len0 cap0] w fun e w'=>e = .returned (.bool true)∧Below w.heap.size w w':=by
 obtain ⟨l0,rfl,hr0,hm0,hw0,hc0⟩:=ReadsInt.ofRowC w0
 obtain ⟨k,h⟩:=P l0 hm0 y0 hw0
 refine (laws_FnStarOf.calls k _ _ l0 true w (Kd.C_of_reads (d:=(0:Int)) (h1:=fun _=>rfl) hr0) hc0 h).mono ?_
 rintro e w' ⟨rfl,hd⟩
 exact ⟨rfl,hd⟩

end Go.Proofs.Yticdcfgjpopkoaa.P

-- impl.SetBelow asks each number.
namespace Go.Proofs.Yticdcfgjpopkoaa.P
open Go.RowKit Go.Proofs.YticdcfgjpopkoaaW.PrintWords Go.Proofs.YticdcfgjpopkoaaW.PrintLast Go.Proofs.YticdcfgjpopkoaaW.PrintMore
set_option linter.unusedVariables false
set_option linter.unusedSimpArgs false

theorem below_l0 (a b c d : List Bool) (hb : b ≠ []) (hd : d ≠ []) (h1 : a.length ≤ 60) (h2 : b.length ≤ 60) (h3 : c.length ≤ 60) (h4 : d.length ≤ 60) (N : Nat) (hN : N ≤ 100000) : ∀ (e i : Nat), i ≤ N → N - i = e →
    Ev (fun k => impl_SetBelow.l0 k N i a b c d) (dec (∀ n, i ≤ n → n < N → hasB a b n = true → hasB c d n = true)) := by
  intro e
  induction e with
  | zero =>
    intro i hi he
    rw [dec_true (fun n x y => by omega)]
    refine Ev.step (f := fun k => some true) (fun k => ?_) (Ev.now _)
    simp only [impl_SetBelow.l0]; rw [if_neg (by omega)]
  | succ e ih =>
    intro i hi he
    have e1 := ihas_f a b hb (by omega) i (by omega)
    have e2 := ihas_f c d hd (by omega) i (by omega)
    by_cases hbad : hasB a b i = true ∧ hasB c d i = false
    · rw [dec_false (fun h => by have := h i (Nat.le_refl _) (by omega) hbad.1; rw [hbad.2] at this; cases this)]
      refine Ev.step (f := fun k => some false) (fun k => ?_) (Ev.now _)
      simp only [impl_SetBelow.l0]
      rw [if_pos (by omega), e1, e2, hbad.1, hbad.2]
      rfl
    · have hih := ih (i + 1) (by omega) (by omega)
      have hc : dec (∀ n, i ≤ n → n < N → hasB a b n = true → hasB c d n = true) = dec (∀ n, i + 1 ≤ n → n < N → hasB a b n = true → hasB c d n = true) := dec_congr ⟨fun h n x => h n (by omega), fun h n x y z => by
        rcases Nat.eq_or_lt_of_le x with rfl | x
        · cases hx : hasB c d i with
          | true => rfl
          | false => exact absurd ⟨z, hx⟩ hbad
        · exact h n x y z⟩
      rw [hc]
      refine Ev.step (fun k => ?_) hih
      simp only [impl_SetBelow.l0]
      rw [if_pos (by omega), e1, e2, wsucc (by omega)]
      cases hx : hasB a b i with
      | false => rfl
      | true =>
        cases hy : hasB c d i with
        | true => rfl
        | false => exact absurd ⟨hx, hy⟩ hbad
theorem setBelow_f (s t : ByteArray) (hs : s.size ≤ 70368744177664) (ht : t.size ≤ 70368744177664) : Ev (fun k => impl_SetBelow.f k s t) (bel (chrs s) (chrs t)) := by
  obtain ⟨a, b, e1, p1⟩ := setOf_f s hs
  obtain ⟨c, d, e2, p2⟩ := setOf_f t ht
  have out : Ev (fun k => impl_SetBelow.j0 k true a b c d) false := by
    refine Ev.step (f := fun k => some false) (fun k => ?_) (Ev.now _)
    simp only [impl_SetBelow.j0]; rfl
  refine Ev.congr (fun k => rfl) (Ev.bind e1 (Ev.bind e2 ?_))
  cases h : parse (chrs s) with
  | none =>
    rw [bel_none1 h]
    simp only [Option.isSome_none, Bool.false_eq_true, if_false]; exact out
  | some ab =>
    obtain ⟨rfl, rfl⟩ := p1 ab.1 ab.2 h
    cases h' : parse (chrs t) with
    | none =>
      rw [bel_none2 h']
      simp only [Option.isSome_none, Option.isSome_some, if_true, Bool.not_false]; exact out
    | some cd =>
      obtain ⟨rfl, rfl⟩ := p2 cd.1 cd.2 h'
      have q1 := parse_some (a := ab.1) (b := ab.2) h
      have q2 := parse_some (a := cd.1) (b := cd.2) h'
      have hp1 := List.length_pos_iff.2 q1.2.2
      have hp2 := List.length_pos_iff.2 q2.2.2
      have hL := lcm_small q1.2.1 q2.2.1
      have hL0 : 0 < Nat.lcm ab.2.length cd.2.length := Nat.lcm_pos hp1 hp2
      rw [bel_some (a := ab.1) (b := ab.2) (c := cd.1) (d := cd.2) h h']
      simp only [Option.isSome_some, if_true, Bool.not_true]
      have hl := below_l0 ab.1 ab.2 cd.1 cd.2 q1.2.2 q2.2.2 q1.1 q1.2.1 q2.1 q2.2.1 (max ab.1.length cd.1.length + Nat.lcm ab.2.length cd.2.length) (by omega) _ 0 (by omega) rfl
      have hc : dec (∀ n, 0 ≤ n → n < max ab.1.length cd.1.length + Nat.lcm ab.2.length cd.2.length → hasB ab.1 ab.2 n = true → hasB cd.1 cd.2 n = true) = dec (∀ n, hasB ab.1 ab.2 n = true → hasB cd.1 cd.2 n = true) := dec_congr ⟨fun hh => per_all hL0 ((hasB_per ab.1 ab.2).lcm_left _ _) ((hasB_per cd.1 cd.2).lcm_right _ _) (q := fun x y => x = true → y = true) (fun n hn => hh n (Nat.zero_le _) hn), fun hh n _ _ => hh n⟩
      rw [hc] at hl
      refine Ev.step (f := fun k => (impl_both.f k ab.1 ab.2 cd.1 cd.2).bind fun bt402 => (impl_SetBelow.l0 k (wrap64 (bt402.1 + bt402.2)) 0 ab.1 ab.2 cd.1 cd.2)) (fun k => ?_) (Ev.bind (both_f ab.1 ab.2 cd.1 cd.2 (by omega) (by omega) hp1) ?_)
      · simp only [impl_SetBelow.j0]; rw [if_neg (by decide)]
      · simp only [wadd (show max ab.1.length cd.1.length + Nat.lcm ab.2.length cd.2.length ≤ 4611686018427387904 by omega)]
        exact hl

end Go.Proofs.Yticdcfgjpopkoaa.P

-- For every code the law FnStarOf holds.
namespace Go.Proofs.Yticdcfgjpopkoaa.P
open Go.RowKit Go.Proofs.YticdcfgjpopkoaaW.PrintWords Go.Proofs.YticdcfgjpopkoaaW.PrintLast Go.Proofs.YticdcfgjpopkoaaW.PrintMore
set_option linter.unusedVariables false
set_option linter.unusedSimpArgs false

theorem drawStarOf_f (l : List Int) (h : ∀ x ∈ l, (Lit.int .u8 x).wf = true) : ∃ (s : ByteArray), Few s ∧ Ev (fun k => spec_DrawStarOf.f k l) s := by
  obtain ⟨s, q, hf, hq, K0, h0⟩ := set91_f (code_of h) 0 (by omega)
  dsimp only at h0
  have g0 : ∀ k, K0 ≤ k → spec_l91Set.f k (l.take 2000) 0 = some (s, (q : Int)) := h0
  refine ⟨s, hf, K0, fun k hk => ?_⟩
  try dsimp only
  unfold spec_DrawStarOf.f
  rw [open_f, Option.bind_some, g0 k (by omega), Option.bind_some]
theorem lawStarOf_l1 (s x0 : ByteArray) (hx : x0.size ≤ 122) (f : Nat → Bool) (n : Nat) (hn : n ≤ 40) (hq : setf (chrs x0) = stq f) (h3 : Ev (fun k => laws_FnStarOf.l0 k s x0 ((n + 1 : Nat) : Int)) true) : ∀ (d i : Nat), i ≤ n + 1 → n + 1 - i = d →
    Ev (fun k => laws_FnStarOf.l1 k s x0 n i) true := by
  intro d
  induction d with
  | zero =>
    intro i hi hd
    obtain ⟨K3, h3⟩ := h3
    dsimp only at h3
    refine ⟨K3 + 1, fun k hk => ?_⟩
    obtain ⟨k, rfl, hk2⟩ := down1 hk
    simp only [laws_FnStarOf.l1]
    rw [if_neg (by omega), wsucc (by omega)]
    exact h3 k (by omega)
  | succ d ih =>
    intro i hi hd
    obtain ⟨K2, h2⟩ := ih (i + 1) (by omega) (by omega)
    dsimp only at h2
    obtain ⟨K4, h4⟩ := isetHas_f x0 (by omega) i (by omega)
    dsimp only at h4
    obtain ⟨K5, h5⟩ := isetHas_f x0 (by omega) (n - i) (by omega)
    dsimp only at h5
    obtain ⟨K6, h6⟩ := isetHas_f x0 (by omega) n (by omega)
    dsimp only at h6
    rw [hq] at h4 h5 h6
    have c2 : i ≤ n := by omega
    refine ⟨K2 + K4 + K5 + K6 + 1, fun k hk => ?_⟩
    obtain ⟨k, rfl, hk2⟩ := down1 hk
    simp only [laws_FnStarOf.l1]
    rw [if_pos (by omega), h4 k (by omega), Option.bind_some]
    cases hv : stq f i with
    | false => rw [if_neg (by decide), wsucc (by omega)]; exact h2 k (by omega)
    | true =>
      rw [if_pos (by trivial), wsub c2 (by omega), h5 k (by omega), Option.bind_some]
      cases hv2 : stq f (n - i) with
      | false => rw [if_neg (by decide), wsucc (by omega)]; exact h2 k (by omega)
      | true =>
        have hv3 : stq f n = true := by
          have := (stq_iff.1 hv).add (stq_iff.1 hv2)
          rw [show i + (n - i) = n by omega] at this
          exact stq_iff.2 this
        rw [if_pos (by trivial), h6 k (by omega), hv3, Option.bind_some, if_pos rfl, wsucc (by omega)]
        exact h2 k (by omega)
theorem lawStarOf_l0 (s : ByteArray) (hs : s.size ≤ 70368744177664) (g : (str (chrs s) true).2 = true) : ∀ (d n : Nat), n ≤ 41 → 41 - n = d →
    Ev (fun k => laws_FnStarOf.l0 k s (str (chrs s) true).1 n) true := by
  have z := str_sz (chrs s) true
  obtain ⟨m1, p, hp0, hper, he, hA⟩ := str_ok g
  have hset : setf (chrs (str (chrs s) true).1) = stq (setf (chrs s)) := by rw [he, txt_setf hp0 hper hA]
  have hpar : parse (chrs (str (chrs s) true).1) = some ((cn (stq (setf (chrs s)))).1, (cn (stq (setf (chrs s)))).2) := by rw [he]; exact txt_parse hp0 hper hA
  obtain ⟨a, c, hp, hset0, _⟩ := smallB_ok (str_small g)
  have hbel : bel (chrs s) (chrs (str (chrs s) true).1) = true := by
    unfold bel
    rw [hp, hpar, hset]
    refine dec_true fun n hn => ?_
    rcases Nat.eq_zero_or_pos n with rfl | h0
    · exact stq_iff.2 (St.zero _)
    · exact stq_iff.2 (St.of h0 hn)
  have hagain : (str (chrs (str (chrs s) true).1) true).2 = true → (str (chrs (str (chrs s) true).1) true).1 = (str (chrs s) true).1 := by
    intro g2
    obtain ⟨_, _, b1, b2, b3, b4⟩ := str_ok g2
    rw [b3, hset, stq_idem, he]
  generalize (str (chrs s) true).1 = x0 at *
  intro d
  induction d with
  | zero =>
    intro n hn hd
    obtain ⟨K1, h1⟩ := isetHas_f x0 (by omega) 0 (by omega)
    dsimp only at h1
    obtain ⟨K2, h2⟩ := setBelow_f s x0 hs (by omega)
    dsimp only at h2
    rw [hset, stq_iff.2 (St.zero _)] at h1
    rw [hbel] at h2
    refine ⟨K1 + K2 + 1, fun k hk => ?_⟩
    obtain ⟨k, rfl, hk2⟩ := down1 hk
    have h1 : impl_SetHas.f k x0 0 = some true := h1 k (by omega)
    simp only [laws_FnStarOf.l0]
    rw [if_neg (by omega), starOf_f x0 (by omega), Option.bind_some, h1, Option.bind_some, if_pos (by trivial), h2 k (by omega), Option.bind_some, if_pos (by trivial)]
    cases g2 : (str (chrs x0) true).2 with
    | false => rfl
    | true => rw [if_pos (by trivial), hagain g2, BEq.rfl]
  | succ d ih =>
    intro n hn hd
    obtain ⟨K2, h2⟩ := lawStarOf_l1 s x0 z (setf (chrs s)) n (by omega) hset (ih (n + 1) (by omega) (by omega)) _ 0 (Nat.zero_le _) rfl
    dsimp only at h2
    refine ⟨K2 + 1, fun k hk => ?_⟩
    obtain ⟨k, rfl, hk2⟩ := down1 hk
    simp only [laws_FnStarOf.l0]
    rw [if_pos (by omega)]
    exact h2 k hk2
theorem lawStarOf_ev (l : List Int) (h : ∀ x ∈ l, (Lit.int .u8 x).wf = true) : Ev (fun k => laws_FnStarOf.f k l) true := by
  by_cases hl : (l.length : Int) > 1048576
  · exact ⟨0, fun k _ => by dsimp only; unfold laws_FnStarOf.f; rw [if_pos hl]⟩
  · obtain ⟨s, hf, K1, h1⟩ := drawStarOf_f l h
    dsimp only at h1
    have hz := hf.size
    have hs : s.size ≤ 70368744177664 := by omega
    obtain ⟨K2, h2⟩ := sstarOf_f s hs
    dsimp only at h2
    have h3 := starOf_f s hs
    have main : Ev (fun k => laws_FnStarOf.j0 k s (str (chrs s) true).1 (str (chrs s) true).2 true) true := by
      cases h4 : (str (chrs s) true).2 with
      | false =>
        refine Ev.step (f := fun k => laws_FnStarOf.j1 k s (str (chrs s) true).1 true true) (fun k => ?_) (Ev.step (f := fun k => some true) (fun k => ?_) (Ev.now _))
        · simp only [laws_FnStarOf.j0]; rfl
        · simp only [laws_FnStarOf.j1]; rfl
      | true =>
        refine Ev.step (f := fun k => laws_FnStarOf.j1 k s (str (chrs s) true).1 true false) (fun k => ?_) (Ev.step (fun k => ?_) (lawStarOf_l0 s hs h4 _ 0 (by omega) rfl))
        · simp only [laws_FnStarOf.j0]; rfl
        · simp only [laws_FnStarOf.j1]; rfl
    obtain ⟨K4, h4⟩ := main
    dsimp only at h4
    refine ⟨K1 + K2 + K4, fun k hk => ?_⟩
    try dsimp only
    unfold laws_FnStarOf.f
    rw [if_neg hl, h1 k (by omega), Option.bind_some]
    try dsimp only
    rw [h3, Option.bind_some, h2 k (by omega), Option.bind_some, if_pos (by trivial), BEq.rfl]
    exact h4 k (by omega)
theorem lawStarOf_pure : laws_FnStarOf.Pure := fun l _ _ h => (lawStarOf_ev l h).rounds
end Go.Proofs.Yticdcfgjpopkoaa.P

-- For every code the law FnStarOf holds.
namespace Go.Proofs.Yticdcfgjpopkoaa.Pure
theorem FnStarOf : Go.Proofs.Yticdcfgjpopkoaa.P.laws_FnStarOf.Pure := Go.Proofs.Yticdcfgjpopkoaa.P.lawStarOf_pure
end Go.Proofs.Yticdcfgjpopkoaa.Pure
