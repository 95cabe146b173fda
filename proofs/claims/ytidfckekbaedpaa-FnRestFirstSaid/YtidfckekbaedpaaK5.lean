/- What these laws reach, joined by a program of this session: contracts (written by that program over the kit's print, or by hand) and plain lemmas. -/
import Derived.Test.YtidfckekbaedpaaK1
import Derived.Test.YtidfckekbaedpaaK3
import Derived.Test.YtidfckekbaedpaaK4
namespace Go.Proofs.Ytidfckekbaedpaa.P
open Go.RowKit Go.Proofs.YtidfckekbaedpaaW.PrintWords Go.Proofs.YtidfckekbaedpaaW.PrintLast Go.Proofs.YtidfckekbaedpaaW.PrintMore
attribute [local go_sem] max2_int min2_int max_two min_two max_three min_three max_four min_four   -- for this text's walks alone
set_option linter.unusedVariables false
set_option linter.unusedSimpArgs false

/-! ### impl_RestFirst: function 17 -/
def impl_RestFirst.f (k : Nat) (a0 : ByteArray) (a1 : Int) : Option (Int × Bool) := (impl_tidied.f k a0).bind fun bt432 => (if bt432.2.2 = true then ((impl_in.f a1 0 1000).bind fun t440 => (if t440 = true then ((impl_set_rest.f bt432.1 bt432.2.1 a1).bind fun t441 => (some (t441, true))) else (some (0, false)))) else (some (0, false)))
theorem impl_RestFirst.mono : ∀ a0 a1 k, LeO (impl_RestFirst.f k a0 a1) (impl_RestFirst.f (k + 1) a0 a1) := by
  intro a0 a1 k
  unfold impl_RestFirst.f
  repeat' first
      | (with_reducible exact impl_tidied.mono _ _)
      | (with_reducible exact LeO.refl _)
      | (with_reducible exact LeO.none _)
      | (with_reducible refine LeO.ite ?_ ?_)
      | (with_reducible refine LeO.bind ?_ (fun _ => ?_))
      | exact impl_tidied.mono _ _
      | exact LeO.none _
      | refine LeO.ite ?_ ?_
      | refine LeO.bind ?_ (fun _ => ?_)
set_option maxHeartbeats 8000000 in
set_option maxRecDepth 100000 in
theorem impl_RestFirst.calls (k : Nat) (a0 : ByteArray) (a1 : Int) (r1 : Int) (r2 : Bool) (w : World) (h : impl_RestFirst.f k a0 a1 = some (r1, r2)) :
    Calls Try.prog 17 #[.string a0, .int .i64 a1] w fun e w' => e = .returned (.tuple #[.int .i64 r1, .bool r2]) ∧ Below w.heap.size w w' := by
  have hu50 := Try.underlying50
  have HB := Aside0.mk (Below.refl w.heap.size w)
  have H : ((impl_tidied.f k a0).bind fun bt432 => (if bt432.2.2 = true then ((impl_in.f a1 0 1000).bind fun t440 => (if t440 = true then ((impl_set_rest.f bt432.1 bt432.2.1 a1).bind fun t441 => (some (t441, true))) else (some (0, false)))) else (some (0, false)))) = some (r1, r2) := h
  clear h
  replace H := Option.bind_eq_some_iff.mp H
  obtain ⟨⟨t432, t435, t438⟩, A30, H⟩ := H
  replace H : (if t438 = true then ((impl_in.f a1 0 1000).bind fun t440 => (if t440 = true then ((impl_set_rest.f t432 t435 a1).bind fun t441 => (some (t441, true))) else (some (0, false)))) else (some (0, false))) = some (r1, r2) := H
  have A3 := Aside0.mk A30
  clear A30
  by_cases c4 : t438 = true
  · subst c4
    have H1 : ((impl_in.f a1 0 1000).bind fun t440 => (if t440 = true then ((impl_set_rest.f t432 t435 a1).bind fun t441 => (some (t441, true))) else (some (0, false)))) = some (r1, r2) := by rw [if_pos rfl] at H; exact H
    clear H
    have H := H1
    clear H1
    replace H := Option.bind_eq_some_iff.mp H
    obtain ⟨t440, A50, H⟩ := H
    replace H : (if t440 = true then ((impl_set_rest.f t432 t435 a1).bind fun t441 => (some (t441, true))) else (some (0, false))) = some (r1, r2) := H
    have A5 := Aside0.mk A50
    clear A50
    by_cases c6 : t440 = true
    · subst c6
      have H1 : ((impl_set_rest.f t432 t435 a1).bind fun t441 => (some (t441, true))) = some (r1, r2) := by rw [if_pos rfl] at H; exact H
      clear H
      have H := H1
      clear H1
      replace H := Option.bind_eq_some_iff.mp H
      obtain ⟨t441, A70, H⟩ := H
      replace H : (some (t441, true)) = some (r1, r2) := H
      have A7 := Aside0.mk A70
      clear A70
      simp only [Option.some.injEq, Prod.mk.injEq] at H
      obtain ⟨rfl, rfl⟩ := H
      go_enter Try.func17, Try.ntmps17
      go_wp2_with (first | ((with_reducible refine gate_callee (f := 34) rfl ?_); refine goesL_ (some 10) rfl rfl Try.func34 (by kernel_rfl) rfl #[.string a0] rfl (by (try simp only [List.map_toArray, List.map_cons, List.map_nil]); first | done | rfl | (simp only [List.length_drop, List.length_take]; rfl)) ?_; (with_reducible refine (impl_tidied.calls k a0 t432 t435 true _ A3.out).mono ?_); rintro e w8 ⟨v433, v436, rfl, ho0, ho1, hb⟩; refine ⟨_, rfl, ?_⟩; have n0_ := Aside0.mk (Kd.R_lower ho0 (below_size (by repeat (first | (with_reducible first | exact HB.out | apply below_alloc | apply pw_below_drewN | apply below_drew1) | exact HB.out)))); have n1_ := Aside0.mk (Kd.R_lower ho1 (below_size (by repeat (first | (with_reducible first | exact HB.out | apply below_alloc | apply pw_below_drewN | apply below_drew1) | exact HB.out)))); have n2_ := Aside0.mk (below_step (by repeat (first | (with_reducible first | exact HB.out | apply below_alloc | apply pw_below_drewN | apply below_drew1) | exact HB.out)) hb); clear HB; have HO434 := n0_; have HO437 := n1_; have HB := n2_; clear n0_ n1_ n2_; (try clear hb); (try clear hb2); (try clear hk); (try clear hi); (try clear ho0); (try clear ho1)) | ((with_reducible refine gate_dst (N := 6) rfl ?_); refine box_event ?hg (N := 6) ?hd (cs := #[.slice none 0 0, .slice none 0 0]) (t := 50) ?hr ?_; (case hd => rfl); (case hg => rfl); (case hr => first | (go_simp; done) | (go_simp; rfl)); intro gb439 hg w9 hbox hb; have n0_ := Aside0.mk (Kd.R_below (by (with_reducible repeat (first | apply Kd.R_alloc | apply Kd.R_drewN | apply Kd.R_drew)); exact HO434.out) hb); have n1_ := Aside0.mk (Kd.R_below (by (with_reducible repeat (first | apply Kd.R_alloc | apply Kd.R_drewN | apply Kd.R_drew)); exact HO437.out) hb); have n2_ := Aside0.mk (below_step (by repeat (first | (with_reducible first | exact HB.out | apply below_alloc | apply pw_below_drewN | apply below_drew1) | exact HB.out)) hb); have n3_ := Aside0.mk (hbox); have n4_ := Aside0.mk ((by rw [hg]; exact (below_size (by repeat (first | (with_reducible first | exact HB.out | apply below_alloc | apply pw_below_drewN | apply below_drew1) | exact HB.out))) : w.heap.size ≤ gb439)); have n5_ := Aside0.mk ((by rw [hg]; exact (below_size (by repeat (first | (with_reducible first | exact HB.out | apply below_alloc | apply pw_below_drewN | apply below_drew1) | exact HB.out))) : w.heap.size ≤ gb439)); clear HO434; clear HO437; clear HB; have HO434 := n0_; have HO437 := n1_; have HB := n2_; have BK439 := n3_; have GW439 := n4_; have GE439 := n5_; clear n0_ n1_ n2_ n3_ n4_ n5_; clear hb hbox hg; obtain ⟨Ao10, co10, eo10⟩ := Kd.R_slice HO434.out; subst eo10; have hcz11_0 : w9.cell? ⟨gb439, 0, none⟩ = some (.slice none 0 0) := (blk_cell BK439.out 0).trans rfl; have hcz11_1 : w9.cell? ⟨gb439, 1, none⟩ = some (.slice none 0 0) := (blk_cell BK439.out 1).trans rfl; have hfz11_0 := blk_frozen BK439.out 0; have hfz11_1 := blk_frozen BK439.out 1; obtain ⟨Ao12, co12, eo12⟩ := Kd.R_slice HO437.out; subst eo12) | (go_at_call 44; (with_reducible refine (impl_in.calls a1 0 1000 true _ A5.out).mono ?_); rintro e w' ⟨rfl, ⟨nd, rfl⟩⟩) | ((with_reducible refine gate_callee (f := 45) rfl ?_); refine goesL_ (some 22) rfl rfl Try.func45 (by kernel_rfl) rfl #[.agg #[.slice Ao10 t432.length co10, .slice Ao12 t435.length co12], .int .i64 a1] rfl (by (try simp only [List.map_toArray, List.map_cons, List.map_nil]); first | done | rfl | (simp only [List.length_drop, List.length_take]; rfl)) ?_; (with_reducible refine (impl_set_rest.calls _ _ t432 _ _ t435 a1 t441 _ ?side1 ?side2 ?side3 ?side4 A7.out).mono ?_); (case side1 => refine (Kd.R_reads' (e := 4) (base := w.heap.size) (ok := fun k_ => some k_ ≠ (.slice Ao12 t435.length co12 : Value).ownBlock) (n := t432.length) (c := co10) ?_).2.2; exact (by (with_reducible repeat (first | apply Kd.R_alloc | apply Kd.R_drewN | apply Kd.R_drew)); exact (Kd.R_mono (Kd.R_far (p := ⟨gb439, 1, none⟩) (Kd.R_far (p := ⟨gb439, 0, none⟩) (Kd.R_types HO434.out BK439.out (by decide)) (fun _ hk => hk.2) (.slice Ao10 t432.length co10)) (fun _ hk => hk.2) (.slice Ao12 t435.length co12)) (fun _ h_ => h_.1)))); (case side2 => exact (Kd.R_reads' HO434.out).2.1); (case side3 => refine (Kd.R_reads' (e := 4) (base := w.heap.size) (ok := fun k_ => some k_ ≠ (.slice Ao10 t432.length co10 : Value).ownBlock) (n := t435.length) (c := co12) ?_).2.2; exact (by (with_reducible repeat (first | apply Kd.R_alloc | apply Kd.R_drewN | apply Kd.R_drew)); exact (Kd.R_mono (Kd.R_far (p := ⟨gb439, 1, none⟩) (Kd.R_far (p := ⟨gb439, 0, none⟩) (Kd.R_types HO437.out BK439.out (by decide)) (fun _ hk => hk.2) (.slice Ao10 t432.length co10)) (fun _ hk => hk.2) (.slice Ao12 t435.length co12)) (fun _ h_ => h_.1)))); (case side4 => exact (Kd.R_reads' HO437.out).2.1); rintro e w13 ⟨rfl, hb⟩; refine ⟨_, rfl, ?_⟩; have n0_ := Aside0.mk (Kd.R_below (by (with_reducible repeat (first | apply Kd.R_alloc | apply Kd.R_drewN | apply Kd.R_drew)); exact (Kd.R_mono (Kd.R_far (p := ⟨gb439, 1, none⟩) (Kd.R_far (p := ⟨gb439, 0, none⟩) (Kd.R_types HO434.out BK439.out (by decide)) (fun _ hk => hk.2) (.slice Ao10 t432.length co10)) (fun _ hk => hk.2) (.slice Ao12 t435.length co12)) (fun _ h_ => h_.1))) hb); have n1_ := Aside0.mk (Kd.R_below (by (with_reducible repeat (first | apply Kd.R_alloc | apply Kd.R_drewN | apply Kd.R_drew)); exact (Kd.R_mono (Kd.R_far (p := ⟨gb439, 1, none⟩) (Kd.R_far (p := ⟨gb439, 0, none⟩) (Kd.R_types HO437.out BK439.out (by decide)) (fun _ hk => hk.2) (.slice Ao10 t432.length co10)) (fun _ hk => hk.2) (.slice Ao12 t435.length co12)) (fun _ h_ => h_.1))) hb); have n2_ := Aside0.mk (blk_below (g := gb439) (o := .cells #[.slice Ao10 t432.length co10, .slice Ao12 t435.length co12] 50 (0, 0)) (by (with_reducible repeat (first | refine blk_drewN ?_ _ | refine blk_drew ?_ | refine blk_alloc ?_ _)); refine blk_put (cs := #[.slice Ao10 t432.length co10, .slice none 0 0]) ?_ 1 _ rfl; (with_reducible repeat (first | refine blk_drewN ?_ _ | refine blk_drew ?_ | refine blk_alloc ?_ _)); refine blk_put (cs := #[.slice none 0 0, .slice none 0 0]) ?_ 0 _ rfl; (with_reducible repeat (first | refine blk_drewN ?_ _ | refine blk_drew ?_ | refine blk_alloc ?_ _)); exact BK439.out) hb); have n3_ := Aside0.mk (below_step (by repeat (first | (with_reducible first | exact HB.out | apply below_alloc | apply pw_below_drewN | apply below_drew1 | refine below_set ?_ GE439.out) | exact HB.out)) hb); clear HO434; clear HO437; clear BK439; clear HB; have HO434 := n0_; have HO437 := n1_; have BK439 := n2_; have HB := n3_; clear n0_ n1_ n2_ n3_; (try clear hb); (try clear hb2); (try clear hk); (try clear hi)))
      go_ret2
      exact ⟨by first | rfl | (simp [errW_none, errW_some] <;> rfl) | (simp [*, errW_none, errW_some] <;> rfl) | (simp [errW_none, errW_some]; exact ⟨rfl, rfl⟩), by repeat (first | (with_reducible first | exact HB.out | apply below_alloc | apply pw_below_drewN | apply below_drew1 | refine below_set ?_ GE439.out) | exact HB.out)⟩
    · replace c6 := Bool.eq_false_iff.mpr c6
      subst c6
      have H1 : (some (0, false)) = some (r1, r2) := by rw [if_neg (show ¬ (false = true) by decide)] at H; exact H
      clear H
      have H := H1
      clear H1
      simp only [Option.some.injEq, Prod.mk.injEq] at H
      obtain ⟨rfl, rfl⟩ := H
      go_enter Try.func17, Try.ntmps17
      go_wp2_with (first | ((with_reducible refine gate_callee (f := 34) rfl ?_); refine goesL_ (some 10) rfl rfl Try.func34 (by kernel_rfl) rfl #[.string a0] rfl (by (try simp only [List.map_toArray, List.map_cons, List.map_nil]); first | done | rfl | (simp only [List.length_drop, List.length_take]; rfl)) ?_; (with_reducible refine (impl_tidied.calls k a0 t432 t435 true _ A3.out).mono ?_); rintro e w14 ⟨v433, v436, rfl, ho0, ho1, hb⟩; refine ⟨_, rfl, ?_⟩; have n0_ := Aside0.mk (Kd.R_lower ho0 (below_size (by repeat (first | (with_reducible first | exact HB.out | apply below_alloc | apply pw_below_drewN | apply below_drew1) | exact HB.out)))); have n1_ := Aside0.mk (Kd.R_lower ho1 (below_size (by repeat (first | (with_reducible first | exact HB.out | apply below_alloc | apply pw_below_drewN | apply below_drew1) | exact HB.out)))); have n2_ := Aside0.mk (below_step (by repeat (first | (with_reducible first | exact HB.out | apply below_alloc | apply pw_below_drewN | apply below_drew1) | exact HB.out)) hb); clear HB; have HO434 := n0_; have HO437 := n1_; have HB := n2_; clear n0_ n1_ n2_; (try clear hb); (try clear hb2); (try clear hk); (try clear hi); (try clear ho0); (try clear ho1)) | ((with_reducible refine gate_dst (N := 6) rfl ?_); refine box_event ?hg (N := 6) ?hd (cs := #[.slice none 0 0, .slice none 0 0]) (t := 50) ?hr ?_; (case hd => rfl); (case hg => rfl); (case hr => first | (go_simp; done) | (go_simp; rfl)); intro gb439 hg w15 hbox hb; have n0_ := Aside0.mk (Kd.R_below (by (with_reducible repeat (first | apply Kd.R_alloc | apply Kd.R_drewN | apply Kd.R_drew)); exact HO434.out) hb); have n1_ := Aside0.mk (Kd.R_below (by (with_reducible repeat (first | apply Kd.R_alloc | apply Kd.R_drewN | apply Kd.R_drew)); exact HO437.out) hb); have n2_ := Aside0.mk (below_step (by repeat (first | (with_reducible first | exact HB.out | apply below_alloc | apply pw_below_drewN | apply below_drew1) | exact HB.out)) hb); have n3_ := Aside0.mk (hbox); have n4_ := Aside0.mk ((by rw [hg]; exact (below_size (by repeat (first | (with_reducible first | exact HB.out | apply below_alloc | apply pw_below_drewN | apply below_drew1) | exact HB.out))) : w.heap.size ≤ gb439)); have n5_ := Aside0.mk ((by rw [hg]; exact (below_size (by repeat (first | (with_reducible first | exact HB.out | apply below_alloc | apply pw_below_drewN | apply below_drew1) | exact HB.out))) : w.heap.size ≤ gb439)); clear HO434; clear HO437; clear HB; have HO434 := n0_; have HO437 := n1_; have HB := n2_; have BK439 := n3_; have GW439 := n4_; have GE439 := n5_; clear n0_ n1_ n2_ n3_ n4_ n5_; clear hb hbox hg; obtain ⟨Ao16, co16, eo16⟩ := Kd.R_slice HO434.out; subst eo16; have hcz17_0 : w15.cell? ⟨gb439, 0, none⟩ = some (.slice none 0 0) := (blk_cell BK439.out 0).trans rfl; have hcz17_1 : w15.cell? ⟨gb439, 1, none⟩ = some (.slice none 0 0) := (blk_cell BK439.out 1).trans rfl; have hfz17_0 := blk_frozen BK439.out 0; have hfz17_1 := blk_frozen BK439.out 1; obtain ⟨Ao18, co18, eo18⟩ := Kd.R_slice HO437.out; subst eo18) | (go_at_call 44; (with_reducible refine (impl_in.calls a1 0 1000 false _ A5.out).mono ?_); rintro e w' ⟨rfl, ⟨nd, rfl⟩⟩))
      go_ret2
      exact ⟨by first | rfl | (simp [errW_none, errW_some] <;> rfl) | (simp [*, errW_none, errW_some] <;> rfl) | (simp [errW_none, errW_some]; exact ⟨rfl, rfl⟩), by repeat (first | (with_reducible first | exact HB.out | apply below_alloc | apply pw_below_drewN | apply below_drew1 | refine below_set ?_ GE439.out) | exact HB.out)⟩
  · replace c4 := Bool.eq_false_iff.mpr c4
    subst c4
    have H1 : (some (0, false)) = some (r1, r2) := by rw [if_neg (show ¬ (false = true) by decide)] at H; exact H
    clear H
    have H := H1
    clear H1
    simp only [Option.some.injEq, Prod.mk.injEq] at H
    obtain ⟨rfl, rfl⟩ := H
    go_enter Try.func17, Try.ntmps17
    go_wp2_with (first | ((with_reducible refine gate_callee (f := 34) rfl ?_); refine goesL_ (some 10) rfl rfl Try.func34 (by kernel_rfl) rfl #[.string a0] rfl (by (try simp only [List.map_toArray, List.map_cons, List.map_nil]); first | done | rfl | (simp only [List.length_drop, List.length_take]; rfl)) ?_; (with_reducible refine (impl_tidied.calls k a0 t432 t435 false _ A3.out).mono ?_); rintro e w19 ⟨v433, v436, rfl, ho0, ho1, hb⟩; refine ⟨_, rfl, ?_⟩; have n0_ := Aside0.mk (Kd.R_lower ho0 (below_size (by repeat (first | (with_reducible first | exact HB.out | apply below_alloc | apply pw_below_drewN | apply below_drew1) | exact HB.out)))); have n1_ := Aside0.mk (Kd.R_lower ho1 (below_size (by repeat (first | (with_reducible first | exact HB.out | apply below_alloc | apply pw_below_drewN | apply below_drew1) | exact HB.out)))); have n2_ := Aside0.mk (below_step (by repeat (first | (with_reducible first | exact HB.out | apply below_alloc | apply pw_below_drewN | apply below_drew1) | exact HB.out)) hb); clear HB; have HO434 := n0_; have HO437 := n1_; have HB := n2_; clear n0_ n1_ n2_; (try clear hb); (try clear hb2); (try clear hk); (try clear hi); (try clear ho0); (try clear ho1)) | ((with_reducible refine gate_dst (N := 6) rfl ?_); refine box_event ?hg (N := 6) ?hd (cs := #[.slice none 0 0, .slice none 0 0]) (t := 50) ?hr ?_; (case hd => rfl); (case hg => rfl); (case hr => first | (go_simp; done) | (go_simp; rfl)); intro gb439 hg w20 hbox hb; have n0_ := Aside0.mk (Kd.R_below (by (with_reducible repeat (first | apply Kd.R_alloc | apply Kd.R_drewN | apply Kd.R_drew)); exact HO434.out) hb); have n1_ := Aside0.mk (Kd.R_below (by (with_reducible repeat (first | apply Kd.R_alloc | apply Kd.R_drewN | apply Kd.R_drew)); exact HO437.out) hb); have n2_ := Aside0.mk (below_step (by repeat (first | (with_reducible first | exact HB.out | apply below_alloc | apply pw_below_drewN | apply below_drew1) | exact HB.out)) hb); have n3_ := Aside0.mk (hbox); have n4_ := Aside0.mk ((by rw [hg]; exact (below_size (by repeat (first | (with_reducible first | exact HB.out | apply below_alloc | apply pw_below_drewN | apply below_drew1) | exact HB.out))) : w.heap.size ≤ gb439)); have n5_ := Aside0.mk ((by rw [hg]; exact (below_size (by repeat (first | (with_reducible first | exact HB.out | apply below_alloc | apply pw_below_drewN | apply below_drew1) | exact HB.out))) : w.heap.size ≤ gb439)); clear HO434; clear HO437; clear HB; have HO434 := n0_; have HO437 := n1_; have HB := n2_; have BK439 := n3_; have GW439 := n4_; have GE439 := n5_; clear n0_ n1_ n2_ n3_ n4_ n5_; clear hb hbox hg; obtain ⟨Ao21, co21, eo21⟩ := Kd.R_slice HO434.out; subst eo21; have hcz22_0 : w20.cell? ⟨gb439, 0, none⟩ = some (.slice none 0 0) := (blk_cell BK439.out 0).trans rfl; have hcz22_1 : w20.cell? ⟨gb439, 1, none⟩ = some (.slice none 0 0) := (blk_cell BK439.out 1).trans rfl; have hfz22_0 := blk_frozen BK439.out 0; have hfz22_1 := blk_frozen BK439.out 1; obtain ⟨Ao23, co23, eo23⟩ := Kd.R_slice HO437.out; subst eo23))
    go_ret2
    exact ⟨by first | rfl | (simp [errW_none, errW_some] <;> rfl) | (simp [*, errW_none, errW_some] <;> rfl) | (simp [errW_none, errW_some]; exact ⟨rfl, rfl⟩), by repeat (first | (with_reducible first | exact HB.out | apply below_alloc | apply pw_below_drewN | apply below_drew1 | refine below_set ?_ GE439.out) | exact HB.out)⟩

end Go.Proofs.Ytidfckekbaedpaa.P

namespace Go.Proofs.Ytidfckekbaedpaa.P
open Go.RowKit Go.Proofs.YtidfckekbaedpaaW.PrintWords Go.Proofs.YtidfckekbaedpaaW.PrintLast Go.Proofs.YtidfckekbaedpaaW.PrintMore
attribute [local go_sem] max2_int min2_int max_two min_two max_three min_three max_four min_four   -- for this text's walks alone
set_option linter.unusedVariables false
set_option linter.unusedSimpArgs false

/-! ### spec_DrawRestFirst: function 16 -/
def spec_DrawRestFirst.f (k : Nat) (l0 : List Int) : Option (ByteArray × Int) := (spec_l6Open.f l0).bind fun bt424 => ((spec_l91Set.f k bt424.1 bt424.2).bind fun bt427 => ((spec_l91Number.f k bt424.1 bt427.2 1000).bind fun bt429 => (some (bt427.1, bt429.1))))
theorem spec_DrawRestFirst.mono : ∀ a0 k, LeO (spec_DrawRestFirst.f k a0) (spec_DrawRestFirst.f (k + 1) a0) := by
  intro a0 k
  unfold spec_DrawRestFirst.f
  repeat' first
      | (with_reducible exact spec_l91Number.mono _ _ _ _)
      | (with_reducible exact spec_l91Set.mono _ _ _)
      | (with_reducible exact LeO.refl _)
      | (with_reducible exact LeO.none _)
      | (with_reducible refine LeO.ite ?_ ?_)
      | (with_reducible refine LeO.bind ?_ (fun _ => ?_))
      | exact spec_l91Number.mono _ _ _ _
      | exact spec_l91Set.mono _ _ _
      | exact LeO.none _
      | refine LeO.ite ?_ ?_
      | refine LeO.bind ?_ (fun _ => ?_)
set_option maxHeartbeats 8000000 in
set_option maxRecDepth 100000 in
theorem spec_DrawRestFirst.calls (k : Nat) (A0 : Option Addr) (c0 : Nat) (l0 : List Int) (r1 : ByteArray) (r2 : Int) (w : World) (hr0 : Kd.C (Kd.int .u8) w A0 l0.length l0) (hc0 : l0.length ≤ c0) (h : spec_DrawRestFirst.f k l0 = some (r1, r2)) :
    Calls Try.prog 16 #[.slice A0 l0.length c0] w fun e w' => e = .returned (.tuple #[.string r1, .int .i64 r2]) ∧ Below w.heap.size w w' := by
  have HR0 := Aside0.mk hr0
  have HC0 := Aside0.mk hc0
  clear hr0 hc0
  have HB := Aside0.mk (Below.refl w.heap.size w)
  have H : ((spec_l6Open.f l0).bind fun bt424 => ((spec_l91Set.f k bt424.1 bt424.2).bind fun bt427 => ((spec_l91Number.f k bt424.1 bt427.2 1000).bind fun bt429 => (some (bt427.1, bt429.1))))) = some (r1, r2) := h
  clear h
  replace H := Option.bind_eq_some_iff.mp H
  obtain ⟨⟨t424, t425⟩, A20, H⟩ := H
  replace H : ((spec_l91Set.f k t424 t425).bind fun bt427 => ((spec_l91Number.f k t424 bt427.2 1000).bind fun bt429 => (some (bt427.1, bt429.1)))) = some (r1, r2) := H
  have A2 := Aside0.mk A20
  clear A20
  replace H := Option.bind_eq_some_iff.mp H
  obtain ⟨⟨t427, t428⟩, A30, H⟩ := H
  replace H : ((spec_l91Number.f k t424 t428 1000).bind fun bt429 => (some (t427, bt429.1))) = some (r1, r2) := H
  have A3 := Aside0.mk A30
  clear A30
  replace H := Option.bind_eq_some_iff.mp H
  obtain ⟨⟨t429, t430⟩, A40, H⟩ := H
  replace H : (some (t427, t429)) = some (r1, r2) := H
  have A4 := Aside0.mk A40
  clear A40
  simp only [Option.some.injEq, Prod.mk.injEq] at H
  obtain ⟨rfl, rfl⟩ := H
  go_enter Try.func16, Try.ntmps16
  go_wp2_with (first | ((with_reducible refine gate_callee (f := 32) rfl ?_); refine goesL_ (some 6) rfl rfl Try.func32 (by kernel_rfl) rfl #[.slice A0 l0.length c0] rfl (by (try simp only [List.map_toArray, List.map_cons, List.map_nil]); first | done | rfl | (simp only [List.length_drop, List.length_take]; rfl)) ?_; (with_reducible refine (spec_l6Open.calls _ _ l0 t424 t425 w _ ?side1 ?side2 ?side3 A2.out).mono ?_); (case side1 => repeat (first | (with_reducible first | exact HB.out | apply below_alloc | apply pw_below_drewN | apply below_drew1) | exact HB.out)); (case side2 => exact HR0.out); (case side3 => exact HC0.out); rintro e w5 ⟨g426, rfl, hi, hb, hb2⟩; refine ⟨_, rfl, ?_⟩; have n0_ := Aside0.mk (hb); have n1_ := Aside0.mk (hi); clear HB; have HB := n0_; have HI426 := n1_; clear n0_ n1_; (try clear hb); (try clear hb2); (try clear hk); (try clear hi)) | ((with_reducible refine gate_callee (f := 33) rfl ?_); refine goesL_ (some 8) rfl rfl Try.func33 (by kernel_rfl) rfl #[.pointer (some ⟨g426, 0, none⟩)] rfl (by (try simp only [List.map_toArray, List.map_cons, List.map_nil]); first | done | rfl | (simp only [List.length_drop, List.length_take]; rfl)) ?_; (with_reducible refine (spec_l91Set.calls k g426 t424 t425 t427 t428 w _ ?side1 ?side2 A3.out).mono ?_); (case side1 => repeat (first | (with_reducible first | exact HI426.out | apply IsS77.alloc | apply IsS77.drewN | apply IsS77.drew | apply IsS77.set_1) | exact HI426.out)); (case side2 => repeat (first | (with_reducible first | exact HB.out | apply below_alloc | apply pw_below_drewN | apply below_drew1 | refine below_set ?_ (IsS77.ge HI426.out)) | exact HB.out)); rintro e w6 ⟨rfl, hi, hb, hk⟩; refine ⟨_, rfl, ?_⟩; have n0_ := Aside0.mk (hb); have n1_ := Aside0.mk (hi); clear HB; clear HI426; have HB := n0_; have HI426 := n1_; clear n0_ n1_; (try clear hb); (try clear hb2); (try clear hk); (try clear hi)) | ((with_reducible refine gate_callee (f := 43) rfl ?_); refine goesL_ (some 10) rfl rfl Try.func43 (by kernel_rfl) rfl #[.pointer (some ⟨g426, 0, none⟩), .int .i64 1000] rfl (by (try simp only [List.map_toArray, List.map_cons, List.map_nil]); first | done | rfl | (simp only [List.length_drop, List.length_take]; rfl)) ?_; (with_reducible refine (spec_l91Number.calls k g426 t424 t428 1000 t429 t430 w _ ?side1 ?side2 A4.out).mono ?_); (case side1 => repeat (first | (with_reducible first | exact HI426.out | apply IsS77.alloc | apply IsS77.drewN | apply IsS77.drew | apply IsS77.set_1) | exact HI426.out)); (case side2 => repeat (first | (with_reducible first | exact HB.out | apply below_alloc | apply pw_below_drewN | apply below_drew1 | refine below_set ?_ (IsS77.ge HI426.out)) | exact HB.out)); rintro e w7 ⟨rfl, hi, hb, hk⟩; refine ⟨_, rfl, ?_⟩; have n0_ := Aside0.mk (hb); have n1_ := Aside0.mk (hi); clear HB; clear HI426; have HB := n0_; have HI426 := n1_; clear n0_ n1_; (try clear hb); (try clear hb2); (try clear hk); (try clear hi)))
  go_ret2
  exact ⟨by first | rfl | (simp [errW_none, errW_some] <;> rfl) | (simp [*, errW_none, errW_some] <;> rfl) | (simp [errW_none, errW_some]; exact ⟨rfl, rfl⟩), by repeat (first | (with_reducible first | exact HB.out | apply below_alloc | apply pw_below_drewN | apply below_drew1 | refine below_set ?_ (IsS77.ge HI426.out)) | exact HB.out)⟩

end Go.Proofs.Ytidfckekbaedpaa.P

namespace Go.Proofs.Ytidfckekbaedpaa.P
open Go.RowKit Go.Proofs.YtidfckekbaedpaaW.PrintWords Go.Proofs.YtidfckekbaedpaaW.PrintLast Go.Proofs.YtidfckekbaedpaaW.PrintMore
attribute [local go_sem] max2_int min2_int max_two min_two max_three min_three max_four min_four   -- for this text's walks alone
set_option linter.unusedVariables false
set_option linter.unusedSimpArgs false

/-! ### spec_RestFirst: function 18 -/
def spec_RestFirst.l0 : Nat → ByteArray → Int → List Bool → List Bool → Option (Int × Bool)
  | 0, _, _, _, _ => none
  | k + 1, x8, x9, x488000, x488001 => (spec_l5Down.f k x488000 x488001 x9).bind fun t489 => (if t489.toList = x8.toList then (some (x9, true)) else (spec_RestFirst.l0 k x8 (wrap64 (x9 + 1)) x488000 x488001))
def spec_RestFirst.f (k : Nat) (a0 : ByteArray) (a1 : Int) : Option (Int × Bool) := (spec_l5Given.f k a0 a1).bind fun bt480 => (if bt480.2.2 = true then ((spec_l5Down.f k bt480.1 bt480.2.1 a1).bind fun t488 => (spec_RestFirst.l0 k t488 0 bt480.1 bt480.2.1)) else (some (0, false)))
theorem spec_RestFirst.mono_l : ∀ k, (∀ y0 y1 y2 y3, LeO (spec_RestFirst.l0 k y0 y1 y2 y3) (spec_RestFirst.l0 (k + 1) y0 y1 y2 y3))
  | 0 => fun _ _ _ _ r h => by simp [spec_RestFirst.l0] at h
  | k + 1 => by
    have ih0 := spec_RestFirst.mono_l k
    · intro y0 y1 y2 y3
      unfold spec_RestFirst.l0
      repeat' first
      | (with_reducible exact ih0 _ _ _ _)
      | (with_reducible exact spec_l5Down.mono _ _ _ _)
      | (with_reducible exact spec_l5Given.mono _ _ _)
      | (with_reducible exact LeO.refl _)
      | (with_reducible exact LeO.none _)
      | (with_reducible refine LeO.ite ?_ ?_)
      | (with_reducible refine LeO.bind ?_ (fun _ => ?_))
      | exact ih0 _ _ _ _
      | exact spec_l5Down.mono _ _ _ _
      | exact spec_l5Given.mono _ _ _
      | exact LeO.none _
      | refine LeO.ite ?_ ?_
      | refine LeO.bind ?_ (fun _ => ?_)
theorem spec_RestFirst.mono : ∀ a0 a1 k, LeO (spec_RestFirst.f k a0 a1) (spec_RestFirst.f (k + 1) a0 a1) := by
  intro a0 a1 k
  have ih0 := spec_RestFirst.mono_l k
  unfold spec_RestFirst.f
  repeat' first
      | (with_reducible exact ih0 _ _ _ _)
      | (with_reducible exact spec_l5Down.mono _ _ _ _)
      | (with_reducible exact spec_l5Given.mono _ _ _)
      | (with_reducible exact LeO.refl _)
      | (with_reducible exact LeO.none _)
      | (with_reducible refine LeO.ite ?_ ?_)
      | (with_reducible refine LeO.bind ?_ (fun _ => ?_))
      | exact ih0 _ _ _ _
      | exact spec_l5Down.mono _ _ _ _
      | exact spec_l5Given.mono _ _ _
      | exact LeO.none _
      | refine LeO.ite ?_ ?_
      | refine LeO.bind ?_ (fun _ => ?_)
set_option maxHeartbeats 8000000 in
set_option maxRecDepth 100000 in
theorem spec_RestFirst.calls (k : Nat) (a0 : ByteArray) (a1 : Int) (r1 : Int) (r2 : Bool) (w : World) (h : spec_RestFirst.f k a0 a1 = some (r1, r2)) :
    Calls Try.prog 18 #[.string a0, .int .i64 a1] w fun e w' => e = .returned (.tuple #[.int .i64 r1, .bool r2]) ∧ Below w.heap.size w w' := by
  have hu55 := Try.underlying55
  have HB := Aside0.mk (Below.refl w.heap.size w)
  have H : ((spec_l5Given.f k a0 a1).bind fun bt480 => (if bt480.2.2 = true then ((spec_l5Down.f k bt480.1 bt480.2.1 a1).bind fun t488 => (spec_RestFirst.l0 k t488 0 bt480.1 bt480.2.1)) else (some (0, false)))) = some (r1, r2) := h
  clear h
  replace H := Option.bind_eq_some_iff.mp H
  obtain ⟨⟨t480, t483, t486⟩, A30, H⟩ := H
  replace H : (if t486 = true then ((spec_l5Down.f k t480 t483 a1).bind fun t488 => (spec_RestFirst.l0 k t488 0 t480 t483)) else (some (0, false))) = some (r1, r2) := H
  have A3 := Aside0.mk A30
  clear A30
  by_cases c4 : t486 = true
  · subst c4
    have H1 : ((spec_l5Down.f k t480 t483 a1).bind fun t488 => (spec_RestFirst.l0 k t488 0 t480 t483)) = some (r1, r2) := by rw [if_pos rfl] at H; exact H
    clear H
    have H := H1
    clear H1
    replace H := Option.bind_eq_some_iff.mp H
    obtain ⟨t488, A50, H⟩ := H
    replace H : (spec_RestFirst.l0 k t488 0 t480 t483) = some (r1, r2) := H
    have A5 := Aside0.mk A50
    clear A50
    have H' := Aside0.mk H
    clear H
    go_enter Try.func18, Try.ntmps18
    go_wp2_with (first | ((with_reducible refine gate_callee (f := 46) rfl ?_); refine goesL_ (some 13) rfl rfl Try.func46 (by kernel_rfl) rfl #[.string a0, .int .i64 a1] rfl (by (try simp only [List.map_toArray, List.map_cons, List.map_nil]); first | done | rfl | (simp only [List.length_drop, List.length_take]; rfl)) ?_; (with_reducible refine (spec_l5Given.calls k a0 a1 t480 t483 true _ A3.out).mono ?_); rintro e w6 ⟨v481, v484, rfl, ho0, ho1, hb⟩; refine ⟨_, rfl, ?_⟩; have n0_ := Aside0.mk (Kd.R_lower ho0 (below_size (by repeat (first | (with_reducible first | exact HB.out | apply below_alloc | apply pw_below_drewN | apply below_drew1) | exact HB.out)))); have n1_ := Aside0.mk (Kd.R_lower ho1 (below_size (by repeat (first | (with_reducible first | exact HB.out | apply below_alloc | apply pw_below_drewN | apply below_drew1) | exact HB.out)))); have n2_ := Aside0.mk (below_step (by repeat (first | (with_reducible first | exact HB.out | apply below_alloc | apply pw_below_drewN | apply below_drew1) | exact HB.out)) hb); clear HB; have HO482 := n0_; have HO485 := n1_; have HB := n2_; clear n0_ n1_ n2_; (try clear hb); (try clear hb2); (try clear hk); (try clear hi); (try clear ho0); (try clear ho1)) | ((with_reducible refine gate_dst (N := 6) rfl ?_); refine box_event ?hg (N := 6) ?hd (cs := #[.slice none 0 0, .slice none 0 0]) (t := 55) ?hr ?_; (case hd => rfl); (case hg => rfl); (case hr => first | (go_simp; done) | (go_simp; rfl)); intro gb487 hg w7 hbox hb; have n0_ := Aside0.mk (Kd.R_below (by (with_reducible repeat (first | apply Kd.R_alloc | apply Kd.R_drewN | apply Kd.R_drew)); exact HO482.out) hb); have n1_ := Aside0.mk (Kd.R_below (by (with_reducible repeat (first | apply Kd.R_alloc | apply Kd.R_drewN | apply Kd.R_drew)); exact HO485.out) hb); have n2_ := Aside0.mk (below_step (by repeat (first | (with_reducible first | exact HB.out | apply below_alloc | apply pw_below_drewN | apply below_drew1) | exact HB.out)) hb); have n3_ := Aside0.mk (hbox); have n4_ := Aside0.mk ((by rw [hg]; exact (below_size (by repeat (first | (with_reducible first | exact HB.out | apply below_alloc | apply pw_below_drewN | apply below_drew1) | exact HB.out))) : w.heap.size ≤ gb487)); have n5_ := Aside0.mk ((by rw [hg]; exact (below_size (by repeat (first | (with_reducible first | exact HB.out | apply below_alloc | apply pw_below_drewN | apply below_drew1) | exact HB.out))) : w.heap.size ≤ gb487)); clear HO482; clear HO485; clear HB; have HO482 := n0_; have HO485 := n1_; have HB := n2_; have BK487 := n3_; have GW487 := n4_; have GE487 := n5_; clear n0_ n1_ n2_ n3_ n4_ n5_; clear hb hbox hg; obtain ⟨Ao8, co8, eo8⟩ := Kd.R_slice HO482.out; subst eo8; have hcz9_0 : w7.cell? ⟨gb487, 0, none⟩ = some (.slice none 0 0) := (blk_cell BK487.out 0).trans rfl; have hcz9_1 : w7.cell? ⟨gb487, 1, none⟩ = some (.slice none 0 0) := (blk_cell BK487.out 1).trans rfl; have hfz9_0 := blk_frozen BK487.out 0; have hfz9_1 := blk_frozen BK487.out 1; obtain ⟨Ao10, co10, eo10⟩ := Kd.R_slice HO485.out; subst eo10) | ((with_reducible refine gate_callee (f := 47) rfl ?_); refine goesL_ (some 20) rfl rfl Try.func47 (by kernel_rfl) rfl #[.agg #[.slice Ao8 t480.length co8, .slice Ao10 t483.length co10], .int .i64 a1] rfl (by (try simp only [List.map_toArray, List.map_cons, List.map_nil]); first | done | rfl | (simp only [List.length_drop, List.length_take]; rfl)) ?_; (with_reducible refine (spec_l5Down.calls k _ _ t480 _ _ t483 a1 t488 _ ?side1 ?side2 ?side3 ?side4 A5.out).mono ?_); (case side1 => refine (Kd.R_reads' (e := 4) (base := w.heap.size) (ok := fun k_ => some k_ ≠ (.slice Ao10 t483.length co10 : Value).ownBlock) (n := t480.length) (c := co8) ?_).2.2; exact (by (with_reducible repeat (first | apply Kd.R_alloc | apply Kd.R_drewN | apply Kd.R_drew)); exact (Kd.R_mono (Kd.R_far (p := ⟨gb487, 1, none⟩) (Kd.R_far (p := ⟨gb487, 0, none⟩) (Kd.R_types HO482.out BK487.out (by decide)) (fun _ hk => hk.2) (.slice Ao8 t480.length co8)) (fun _ hk => hk.2) (.slice Ao10 t483.length co10)) (fun _ h_ => h_.1)))); (case side2 => exact (Kd.R_reads' HO482.out).2.1); (case side3 => refine (Kd.R_reads' (e := 4) (base := w.heap.size) (ok := fun k_ => some k_ ≠ (.slice Ao8 t480.length co8 : Value).ownBlock) (n := t483.length) (c := co10) ?_).2.2; exact (by (with_reducible repeat (first | apply Kd.R_alloc | apply Kd.R_drewN | apply Kd.R_drew)); exact (Kd.R_mono (Kd.R_far (p := ⟨gb487, 1, none⟩) (Kd.R_far (p := ⟨gb487, 0, none⟩) (Kd.R_types HO485.out BK487.out (by decide)) (fun _ hk => hk.2) (.slice Ao8 t480.length co8)) (fun _ hk => hk.2) (.slice Ao10 t483.length co10)) (fun _ h_ => h_.1)))); (case side4 => exact (Kd.R_reads' HO485.out).2.1); rintro e w11 ⟨rfl, hb⟩; refine ⟨_, rfl, ?_⟩; have n0_ := Aside0.mk (Kd.R_below (by (with_reducible repeat (first | apply Kd.R_alloc | apply Kd.R_drewN | apply Kd.R_drew)); exact (Kd.R_mono (Kd.R_far (p := ⟨gb487, 1, none⟩) (Kd.R_far (p := ⟨gb487, 0, none⟩) (Kd.R_types HO482.out BK487.out (by decide)) (fun _ hk => hk.2) (.slice Ao8 t480.length co8)) (fun _ hk => hk.2) (.slice Ao10 t483.length co10)) (fun _ h_ => h_.1))) hb); have n1_ := Aside0.mk (Kd.R_below (by (with_reducible repeat (first | apply Kd.R_alloc | apply Kd.R_drewN | apply Kd.R_drew)); exact (Kd.R_mono (Kd.R_far (p := ⟨gb487, 1, none⟩) (Kd.R_far (p := ⟨gb487, 0, none⟩) (Kd.R_types HO485.out BK487.out (by decide)) (fun _ hk => hk.2) (.slice Ao8 t480.length co8)) (fun _ hk => hk.2) (.slice Ao10 t483.length co10)) (fun _ h_ => h_.1))) hb); have n2_ := Aside0.mk (blk_below (g := gb487) (o := .cells #[.slice Ao8 t480.length co8, .slice Ao10 t483.length co10] 55 (0, 0)) (by (with_reducible repeat (first | refine blk_drewN ?_ _ | refine blk_drew ?_ | refine blk_alloc ?_ _)); refine blk_put (cs := #[.slice Ao8 t480.length co8, .slice none 0 0]) ?_ 1 _ rfl; (with_reducible repeat (first | refine blk_drewN ?_ _ | refine blk_drew ?_ | refine blk_alloc ?_ _)); refine blk_put (cs := #[.slice none 0 0, .slice none 0 0]) ?_ 0 _ rfl; (with_reducible repeat (first | refine blk_drewN ?_ _ | refine blk_drew ?_ | refine blk_alloc ?_ _)); exact BK487.out) hb); have n3_ := Aside0.mk (below_step (by repeat (first | (with_reducible first | exact HB.out | apply below_alloc | apply pw_below_drewN | apply below_drew1 | refine below_set ?_ GE487.out) | exact HB.out)) hb); clear HO482; clear HO485; clear BK487; clear HB; have HO482 := n0_; have HO485 := n1_; have BK487 := n2_; have HB := n3_; clear n0_ n1_ n2_ n3_; (try clear hb); (try clear hb2); (try clear hk); (try clear hi)))
    go_loopg [9] k (fun kq v9 w' => ∃ (x9_1 : Int), v9 = .int .i64 x9_1 ∧ Aside0 (spec_RestFirst.l0 kq t488 x9_1 t480 t483 = some (r1, r2)) ∧ Aside0 (kq ≤ k) ∧ Aside0 (Kd.R Kd.bool 4 w' w.heap.size (fun k_ => some k_ ≠ ((.slice Ao10 t483.length co10) : Value).ownBlock) (.slice Ao8 t480.length co8) t480) ∧ Aside0 (Kd.R Kd.bool 4 w' w.heap.size (fun k_ => some k_ ≠ ((.slice Ao8 t480.length co8) : Value).ownBlock) (.slice Ao10 t483.length co10) t483) ∧ Aside0 (w'.heap[gb487]? = some (.cells #[(.slice Ao8 t480.length co8), (.slice Ao10 t483.length co10)] 55 (0, 0))) ∧ Aside0 (Below w.heap.size w w'))
    case atStart => exact ⟨(0), (by first | rfl | (simp; done) | (simp [*]; done) | (simp [Int.tmod_eq_emod_of_nonneg]; done)), H', ⟨Nat.le_refl _⟩, ⟨by (with_reducible repeat (first | apply Kd.R_alloc | apply Kd.R_drewN | apply Kd.R_drew)); exact HO482.out⟩, ⟨by (with_reducible repeat (first | apply Kd.R_alloc | apply Kd.R_drewN | apply Kd.R_drew)); exact HO485.out⟩, ⟨by (with_reducible repeat (first | refine blk_drewN ?_ _ | refine blk_drew ?_ | refine blk_alloc ?_ _)); exact BK487.out⟩, ⟨by repeat (first | (with_reducible first | exact HB.out | apply below_alloc | apply pw_below_drewN | apply below_drew1 | refine below_set ?_ GE487.out) | exact HB.out)⟩⟩
    case round =>
      clear H'
      try clear c1
      try clear p2
      try clear c4
      try clear hcz9_0
      try clear hcz9_1
      try clear hfz9_0
      try clear hfz9_1
      obtain ⟨x9_1, rfl, HA, HK1, HO_488000, HO_488001, BK487, HB⟩ := hrel
      cases gk with
      | zero => exact absurd HA.out (by simp [spec_RestFirst.l0])
      | succ k1 =>
        have H := HA.out
        clear HA
        simp only [spec_RestFirst.l0] at H
        replace H := Option.bind_eq_some_iff.mp H
        obtain ⟨t489, A120, H⟩ := H
        replace H : (if t489.toList = t488.toList then (some (x9_1, true)) else (spec_RestFirst.l0 k1 t488 (wrap64 (x9_1 + 1)) t480 t483)) = some (r1, r2) := H
        have A12 := Aside0.mk A120
        clear A120
        by_cases c13 : t489.toList = t488.toList
        · rw [if_pos c13] at H
          have c13b0 : (t489.toList == t488.toList) = true := beq_iff_eq.mpr c13
          have c13b1 : (t489.toList != t488.toList) = false := bne_eq_false_iff_eq.mpr c13
          clear c13
          simp only [Option.some.injEq, Prod.mk.injEq] at H
          obtain ⟨rfl, rfl⟩ := H
          have hcz14_0 : wr.cell? ⟨gb487, 0, none⟩ = some (.slice Ao8 t480.length co8) := (blk_cell BK487.out 0).trans rfl
          have hcz14_1 : wr.cell? ⟨gb487, 1, none⟩ = some (.slice Ao10 t483.length co10) := (blk_cell BK487.out 1).trans rfl
          have hfz14_0 := blk_frozen BK487.out 0
          have hfz14_1 := blk_frozen BK487.out 1
          go_wp2_with (first | ((with_reducible refine gate_callee (f := 47) rfl ?_); refine goesL_ (some 23) rfl rfl Try.func47 (by kernel_rfl) rfl #[.agg #[.slice Ao8 t480.length co8, .slice Ao10 t483.length co10], .int .i64 x9_1] rfl (by (try simp only [List.map_toArray, List.map_cons, List.map_nil]); first | done | rfl | (simp only [List.length_drop, List.length_take]; rfl)) ?_; (with_reducible refine (spec_l5Down.calls k1 _ _ t480 _ _ t483 x9_1 t489 _ ?side1 ?side2 ?side3 ?side4 A12.out).mono ?_); (case side1 => repeat (first | exact (Kd.R_reads' HO_488000.out).2.2 | (with_reducible refine Kd.C_alloc ?_ _) | (with_reducible refine Kd.C_drewN ?_ _) | (with_reducible refine Kd.C_drew ?_))); (case side2 => exact (Kd.R_reads' HO_488000.out).2.1); (case side3 => repeat (first | exact (Kd.R_reads' HO_488001.out).2.2 | (with_reducible refine Kd.C_alloc ?_ _) | (with_reducible refine Kd.C_drewN ?_ _) | (with_reducible refine Kd.C_drew ?_))); (case side4 => exact (Kd.R_reads' HO_488001.out).2.1); rintro e w15 ⟨rfl, hb⟩; refine ⟨_, rfl, ?_⟩; have n0_ := Aside0.mk (Kd.R_below (by (with_reducible repeat (first | apply Kd.R_alloc | apply Kd.R_drewN | apply Kd.R_drew)); exact HO_488000.out) hb); have n1_ := Aside0.mk (Kd.R_below (by (with_reducible repeat (first | apply Kd.R_alloc | apply Kd.R_drewN | apply Kd.R_drew)); exact HO_488001.out) hb); have n2_ := Aside0.mk (blk_below (g := gb487) (o := .cells #[.slice Ao8 t480.length co8, .slice Ao10 t483.length co10] 55 (0, 0)) (by (with_reducible repeat (first | refine blk_drewN ?_ _ | refine blk_drew ?_ | refine blk_alloc ?_ _)); exact BK487.out) hb); have n3_ := Aside0.mk (below_step (by repeat (first | (with_reducible first | exact HB.out | apply below_alloc | apply pw_below_drewN | apply below_drew1 | refine below_set ?_ GE487.out) | exact HB.out)) hb); clear HO_488000; clear HO_488001; clear BK487; clear HB; have HO_488000 := n0_; have HO_488001 := n1_; have BK487 := n2_; have HB := n3_; clear n0_ n1_ n2_ n3_; (try clear hb); (try clear hb2); (try clear hk); (try clear hi)))
          go_ret2
          exact ⟨by first | rfl | (simp [errW_none, errW_some] <;> rfl) | (simp [*, errW_none, errW_some] <;> rfl) | (simp [errW_none, errW_some]; exact ⟨rfl, rfl⟩), by repeat (first | (with_reducible first | exact HB.out | apply below_alloc | apply pw_below_drewN | apply below_drew1 | refine below_set ?_ GE487.out) | exact HB.out)⟩
        · rw [if_neg c13] at H
          have c13b0 : (t489.toList == t488.toList) = false := beq_eq_false_iff_ne.mpr c13
          have c13b1 : (t489.toList != t488.toList) = true := bne_iff_ne.mpr c13
          have H' := Aside0.mk H
          clear H
          have hcz16_0 : wr.cell? ⟨gb487, 0, none⟩ = some (.slice Ao8 t480.length co8) := (blk_cell BK487.out 0).trans rfl
          have hcz16_1 : wr.cell? ⟨gb487, 1, none⟩ = some (.slice Ao10 t483.length co10) := (blk_cell BK487.out 1).trans rfl
          have hfz16_0 := blk_frozen BK487.out 0
          have hfz16_1 := blk_frozen BK487.out 1
          go_wp2_with (first | ((with_reducible refine gate_callee (f := 47) rfl ?_); refine goesL_ (some 23) rfl rfl Try.func47 (by kernel_rfl) rfl #[.agg #[.slice Ao8 t480.length co8, .slice Ao10 t483.length co10], .int .i64 x9_1] rfl (by (try simp only [List.map_toArray, List.map_cons, List.map_nil]); first | done | rfl | (simp only [List.length_drop, List.length_take]; rfl)) ?_; (with_reducible refine (spec_l5Down.calls k1 _ _ t480 _ _ t483 x9_1 t489 _ ?side1 ?side2 ?side3 ?side4 A12.out).mono ?_); (case side1 => repeat (first | exact (Kd.R_reads' HO_488000.out).2.2 | (with_reducible refine Kd.C_alloc ?_ _) | (with_reducible refine Kd.C_drewN ?_ _) | (with_reducible refine Kd.C_drew ?_))); (case side2 => exact (Kd.R_reads' HO_488000.out).2.1); (case side3 => repeat (first | exact (Kd.R_reads' HO_488001.out).2.2 | (with_reducible refine Kd.C_alloc ?_ _) | (with_reducible refine Kd.C_drewN ?_ _) | (with_reducible refine Kd.C_drew ?_))); (case side4 => exact (Kd.R_reads' HO_488001.out).2.1); rintro e w17 ⟨rfl, hb⟩; refine ⟨_, rfl, ?_⟩; have n0_ := Aside0.mk (Kd.R_below (by (with_reducible repeat (first | apply Kd.R_alloc | apply Kd.R_drewN | apply Kd.R_drew)); exact HO_488000.out) hb); have n1_ := Aside0.mk (Kd.R_below (by (with_reducible repeat (first | apply Kd.R_alloc | apply Kd.R_drewN | apply Kd.R_drew)); exact HO_488001.out) hb); have n2_ := Aside0.mk (blk_below (g := gb487) (o := .cells #[.slice Ao8 t480.length co8, .slice Ao10 t483.length co10] 55 (0, 0)) (by (with_reducible repeat (first | refine blk_drewN ?_ _ | refine blk_drew ?_ | refine blk_alloc ?_ _)); exact BK487.out) hb); have n3_ := Aside0.mk (below_step (by repeat (first | (with_reducible first | exact HB.out | apply below_alloc | apply pw_below_drewN | apply below_drew1 | refine below_set ?_ GE487.out) | exact HB.out)) hb); clear HO_488000; clear HO_488001; clear BK487; clear HB; have HO_488000 := n0_; have HO_488001 := n1_; have BK487 := n2_; have HB := n3_; clear n0_ n1_ n2_ n3_; (try clear hb); (try clear hb2); (try clear hk); (try clear hi)))
          go_roundg k1
          case measure => have := HK1.out; omega
          case rel => exact ⟨(wrap64 (x9_1 + 1)), (by first | rfl | (simp; done) | (simp [*]; done) | (simp [Int.tmod_eq_emod_of_nonneg]; done)), H', ⟨by have := HK1.out; omega⟩, ⟨by (with_reducible repeat (first | apply Kd.R_alloc | apply Kd.R_drewN | apply Kd.R_drew)); exact HO_488000.out⟩, ⟨by (with_reducible repeat (first | apply Kd.R_alloc | apply Kd.R_drewN | apply Kd.R_drew)); exact HO_488001.out⟩, ⟨by (with_reducible repeat (first | refine blk_drewN ?_ _ | refine blk_drew ?_ | refine blk_alloc ?_ _)); exact BK487.out⟩, ⟨by repeat (first | (with_reducible first | exact HB.out | apply below_alloc | apply pw_below_drewN | apply below_drew1 | refine below_set ?_ GE487.out) | exact HB.out)⟩⟩
  · replace c4 := Bool.eq_false_iff.mpr c4
    subst c4
    have H1 : (some (0, false)) = some (r1, r2) := by rw [if_neg (show ¬ (false = true) by decide)] at H; exact H
    clear H
    have H := H1
    clear H1
    simp only [Option.some.injEq, Prod.mk.injEq] at H
    obtain ⟨rfl, rfl⟩ := H
    go_enter Try.func18, Try.ntmps18
    go_wp2_with (first | ((with_reducible refine gate_callee (f := 46) rfl ?_); refine goesL_ (some 13) rfl rfl Try.func46 (by kernel_rfl) rfl #[.string a0, .int .i64 a1] rfl (by (try simp only [List.map_toArray, List.map_cons, List.map_nil]); first | done | rfl | (simp only [List.length_drop, List.length_take]; rfl)) ?_; (with_reducible refine (spec_l5Given.calls k a0 a1 t480 t483 false _ A3.out).mono ?_); rintro e w18 ⟨v481, v484, rfl, ho0, ho1, hb⟩; refine ⟨_, rfl, ?_⟩; have n0_ := Aside0.mk (Kd.R_lower ho0 (below_size (by repeat (first | (with_reducible first | exact HB.out | apply below_alloc | apply pw_below_drewN | apply below_drew1) | exact HB.out)))); have n1_ := Aside0.mk (Kd.R_lower ho1 (below_size (by repeat (first | (with_reducible first | exact HB.out | apply below_alloc | apply pw_below_drewN | apply below_drew1) | exact HB.out)))); have n2_ := Aside0.mk (below_step (by repeat (first | (with_reducible first | exact HB.out | apply below_alloc | apply pw_below_drewN | apply below_drew1) | exact HB.out)) hb); clear HB; have HO482 := n0_; have HO485 := n1_; have HB := n2_; clear n0_ n1_ n2_; (try clear hb); (try clear hb2); (try clear hk); (try clear hi); (try clear ho0); (try clear ho1)) | ((with_reducible refine gate_dst (N := 6) rfl ?_); refine box_event ?hg (N := 6) ?hd (cs := #[.slice none 0 0, .slice none 0 0]) (t := 55) ?hr ?_; (case hd => rfl); (case hg => rfl); (case hr => first | (go_simp; done) | (go_simp; rfl)); intro gb487 hg w19 hbox hb; have n0_ := Aside0.mk (Kd.R_below (by (with_reducible repeat (first | apply Kd.R_alloc | apply Kd.R_drewN | apply Kd.R_drew)); exact HO482.out) hb); have n1_ := Aside0.mk (Kd.R_below (by (with_reducible repeat (first | apply Kd.R_alloc | apply Kd.R_drewN | apply Kd.R_drew)); exact HO485.out) hb); have n2_ := Aside0.mk (below_step (by repeat (first | (with_reducible first | exact HB.out | apply below_alloc | apply pw_below_drewN | apply below_drew1) | exact HB.out)) hb); have n3_ := Aside0.mk (hbox); have n4_ := Aside0.mk ((by rw [hg]; exact (below_size (by repeat (first | (with_reducible first | exact HB.out | apply below_alloc | apply pw_below_drewN | apply below_drew1) | exact HB.out))) : w.heap.size ≤ gb487)); have n5_ := Aside0.mk ((by rw [hg]; exact (below_size (by repeat (first | (with_reducible first | exact HB.out | apply below_alloc | apply pw_below_drewN | apply below_drew1) | exact HB.out))) : w.heap.size ≤ gb487)); clear HO482; clear HO485; clear HB; have HO482 := n0_; have HO485 := n1_; have HB := n2_; have BK487 := n3_; have GW487 := n4_; have GE487 := n5_; clear n0_ n1_ n2_ n3_ n4_ n5_; clear hb hbox hg; obtain ⟨Ao20, co20, eo20⟩ := Kd.R_slice HO482.out; subst eo20; have hcz21_0 : w19.cell? ⟨gb487, 0, none⟩ = some (.slice none 0 0) := (blk_cell BK487.out 0).trans rfl; have hcz21_1 : w19.cell? ⟨gb487, 1, none⟩ = some (.slice none 0 0) := (blk_cell BK487.out 1).trans rfl; have hfz21_0 := blk_frozen BK487.out 0; have hfz21_1 := blk_frozen BK487.out 1; obtain ⟨Ao22, co22, eo22⟩ := Kd.R_slice HO485.out; subst eo22))
    go_ret2
    exact ⟨by first | rfl | (simp [errW_none, errW_some] <;> rfl) | (simp [*, errW_none, errW_some] <;> rfl) | (simp [errW_none, errW_some]; exact ⟨rfl, rfl⟩), by repeat (first | (with_reducible first | exact HB.out | apply below_alloc | apply pw_below_drewN | apply below_drew1 | refine below_set ?_ GE487.out) | exact HB.out)⟩

end Go.Proofs.Ytidfckekbaedpaa.P

namespace Go.Proofs.Ytidfckekbaedpaa.P
open Go.RowKit Go.Proofs.YtidfckekbaedpaaW.PrintWords Go.Proofs.YtidfckekbaedpaaW.PrintLast Go.Proofs.YtidfckekbaedpaaW.PrintMore
attribute [local go_sem] max2_int min2_int max_two min_two max_three min_three max_four min_four   -- for this text's walks alone
set_option linter.unusedVariables false
set_option linter.unusedSimpArgs false

/-! ### laws_FnRestFirst: function 5 -/
mutual
def laws_FnRestFirst.j0 : Nat → ByteArray → Int → Int → Bool → Bool → Option (Bool)
  | 0, _, _, _, _, _ => none
  | k + 1, x3, x4, x5, x6, x9 => if x9 = true then (laws_FnRestFirst.j1 k x3 x4 x5 x9 (!x6)) else (laws_FnRestFirst.j1 k x3 x4 x5 x9 true)
def laws_FnRestFirst.j1 : Nat → ByteArray → Int → Int → Bool → Bool → Option (Bool)
  | 0, _, _, _, _, _ => none
  | k + 1, x3, x4, x5, x9, x44 => if x44 = true then (some x9) else (laws_FnRestFirst.l0 k x3 x4 x5 0)
def laws_FnRestFirst.l0 : Nat → ByteArray → Int → Int → Int → Option (Bool)
  | 0, _, _, _, _ => none
  | k + 1, x3, x4, x5, x10 => if x10 < x5 then ((impl_RestSame.f k x3 x10 x4).bind fun t508 => (if t508 = true then (some false) else (laws_FnRestFirst.l0 k x3 x4 x5 (wrap64 (x10 + 1))))) else ((impl_RestSame.f k x3 x5 x4).bind fun t509 => (if t509 = true then (some (decide (x5 ≤ x4))) else (some false)))
end
def laws_FnRestFirst.f (k : Nat) (l0 : List Int) : Option (Bool) := if (l0.length : Int) > 1048576 then (some true) else ((spec_DrawRestFirst.f k l0).bind fun bt502 => ((impl_RestFirst.f k bt502.1 bt502.2).bind fun bt504 => ((spec_RestFirst.f k bt502.1 bt502.2).bind fun bt506 => (if bt504.1 = bt506.1 then (laws_FnRestFirst.j0 k bt502.1 bt502.2 bt504.1 bt504.2 (bt504.2 == bt506.2)) else (laws_FnRestFirst.j0 k bt502.1 bt502.2 bt504.1 bt504.2 false)))))
theorem laws_FnRestFirst.mono_l : ∀ k, (∀ y0 y1 y2 y3 y4, LeO (laws_FnRestFirst.j0 k y0 y1 y2 y3 y4) (laws_FnRestFirst.j0 (k + 1) y0 y1 y2 y3 y4)) ∧ (∀ y0 y1 y2 y3 y4, LeO (laws_FnRestFirst.j1 k y0 y1 y2 y3 y4) (laws_FnRestFirst.j1 (k + 1) y0 y1 y2 y3 y4)) ∧ (∀ y0 y1 y2 y3, LeO (laws_FnRestFirst.l0 k y0 y1 y2 y3) (laws_FnRestFirst.l0 (k + 1) y0 y1 y2 y3))
  | 0 => ⟨fun _ _ _ _ _ r h => by simp [laws_FnRestFirst.j0] at h, fun _ _ _ _ _ r h => by simp [laws_FnRestFirst.j1] at h, fun _ _ _ _ r h => by simp [laws_FnRestFirst.l0] at h⟩
  | k + 1 => by
    obtain ⟨ih0, ih1, ih2⟩ := laws_FnRestFirst.mono_l k
    refine ⟨?_, ?_, ?_⟩
    · intro y0 y1 y2 y3 y4
      unfold laws_FnRestFirst.j0
      repeat' first
      | (with_reducible exact ih0 _ _ _ _ _)
      | (with_reducible exact ih1 _ _ _ _ _)
      | (with_reducible exact ih2 _ _ _ _)
      | (with_reducible exact impl_RestFirst.mono _ _ _)
      | (with_reducible exact impl_RestSame.mono _ _ _ _)
      | (with_reducible exact spec_DrawRestFirst.mono _ _)
      | (with_reducible exact spec_RestFirst.mono _ _ _)
      | (with_reducible exact LeO.refl _)
      | (with_reducible exact LeO.none _)
      | (with_reducible refine LeO.ite ?_ ?_)
      | (with_reducible refine LeO.bind ?_ (fun _ => ?_))
      | exact ih0 _ _ _ _ _
      | exact ih1 _ _ _ _ _
      | exact ih2 _ _ _ _
      | exact impl_RestFirst.mono _ _ _
      | exact impl_RestSame.mono _ _ _ _
      | exact spec_DrawRestFirst.mono _ _
      | exact spec_RestFirst.mono _ _ _
      | exact LeO.none _
      | refine LeO.ite ?_ ?_
      | refine LeO.bind ?_ (fun _ => ?_)
    · intro y0 y1 y2 y3 y4
      unfold laws_FnRestFirst.j1
      repeat' first
      | (with_reducible exact ih0 _ _ _ _ _)
      | (with_reducible exact ih1 _ _ _ _ _)
      | (with_reducible exact ih2 _ _ _ _)
      | (with_reducible exact impl_RestFirst.mono _ _ _)
      | (with_reducible exact impl_RestSame.mono _ _ _ _)
      | (with_reducible exact spec_DrawRestFirst.mono _ _)
      | (with_reducible exact spec_RestFirst.mono _ _ _)
      | (with_reducible exact LeO.refl _)
      | (with_reducible exact LeO.none _)
      | (with_reducible refine LeO.ite ?_ ?_)
      | (with_reducible refine LeO.bind ?_ (fun _ => ?_))
      | exact ih0 _ _ _ _ _
      | exact ih1 _ _ _ _ _
      | exact ih2 _ _ _ _
      | exact impl_RestFirst.mono _ _ _
      | exact impl_RestSame.mono _ _ _ _
      | exact spec_DrawRestFirst.mono _ _
      | exact spec_RestFirst.mono _ _ _
      | exact LeO.none _
      | refine LeO.ite ?_ ?_
      | refine LeO.bind ?_ (fun _ => ?_)
    · intro y0 y1 y2 y3
      unfold laws_FnRestFirst.l0
      repeat' first
      | (with_reducible exact ih0 _ _ _ _ _)
      | (with_reducible exact ih1 _ _ _ _ _)
      | (with_reducible exact ih2 _ _ _ _)
      | (with_reducible exact impl_RestFirst.mono _ _ _)
      | (with_reducible exact impl_RestSame.mono _ _ _ _)
      | (with_reducible exact spec_DrawRestFirst.mono _ _)
      | (with_reducible exact spec_RestFirst.mono _ _ _)
      | (with_reducible exact LeO.refl _)
      | (with_reducible exact LeO.none _)
      | (with_reducible refine LeO.ite ?_ ?_)
      | (with_reducible refine LeO.bind ?_ (fun _ => ?_))
      | exact ih0 _ _ _ _ _
      | exact ih1 _ _ _ _ _
      | exact ih2 _ _ _ _
      | exact impl_RestFirst.mono _ _ _
      | exact impl_RestSame.mono _ _ _ _
      | exact spec_DrawRestFirst.mono _ _
      | exact spec_RestFirst.mono _ _ _
      | exact LeO.none _
      | refine LeO.ite ?_ ?_
      | refine LeO.bind ?_ (fun _ => ?_)
theorem laws_FnRestFirst.mono : ∀ a0 k, LeO (laws_FnRestFirst.f k a0) (laws_FnRestFirst.f (k + 1) a0) := by
  intro a0 k
  obtain ⟨ih0, ih1, ih2⟩ := laws_FnRestFirst.mono_l k
  unfold laws_FnRestFirst.f
  repeat' first
      | (with_reducible exact ih0 _ _ _ _ _)
      | (with_reducible exact ih1 _ _ _ _ _)
      | (with_reducible exact ih2 _ _ _ _)
      | (with_reducible exact impl_RestFirst.mono _ _ _)
      | (with_reducible exact impl_RestSame.mono _ _ _ _)
      | (with_reducible exact spec_DrawRestFirst.mono _ _)
      | (with_reducible exact spec_RestFirst.mono _ _ _)
      | (with_reducible exact LeO.refl _)
      | (with_reducible exact LeO.none _)
      | (with_reducible refine LeO.ite ?_ ?_)
      | (with_reducible refine LeO.bind ?_ (fun _ => ?_))
      | exact ih0 _ _ _ _ _
      | exact ih1 _ _ _ _ _
      | exact ih2 _ _ _ _
      | exact impl_RestFirst.mono _ _ _
      | exact impl_RestSame.mono _ _ _ _
      | exact spec_DrawRestFirst.mono _ _
      | exact spec_RestFirst.mono _ _ _
      | exact LeO.none _
      | refine LeO.ite ?_ ?_
      | refine LeO.bind ?_ (fun _ => ?_)
set_option maxHeartbeats 8000000 in
set_option maxRecDepth 100000 in
theorem laws_FnRestFirst.calls (k : Nat) (A0 : Option Addr) (c0 : Nat) (l0 : List Int) (r : Bool) (w : World) (hr0 : Kd.C (Kd.int .u8) w A0 l0.length l0) (hc0 : l0.length ≤ c0) (h : laws_FnRestFirst.f k l0 = some r) :
    Calls Try.prog 5 #[.slice A0 l0.length c0] w fun e w' => e = .returned (.bool r) ∧ Below w.heap.size w w' := by
  have HR0 := Aside0.mk hr0
  have HC0 := Aside0.mk hc0
  clear hr0 hc0
  have HB := Aside0.mk (Below.refl w.heap.size w)
  have H : (if (l0.length : Int) > 1048576 then (some true) else ((spec_DrawRestFirst.f k l0).bind fun bt502 => ((impl_RestFirst.f k bt502.1 bt502.2).bind fun bt504 => ((spec_RestFirst.f k bt502.1 bt502.2).bind fun bt506 => (if bt504.1 = bt506.1 then (laws_FnRestFirst.j0 k bt502.1 bt502.2 bt504.1 bt504.2 (bt504.2 == bt506.2)) else (laws_FnRestFirst.j0 k bt502.1 bt502.2 bt504.1 bt504.2 false)))))) = some r := h
  clear h
  by_cases c2 : (l0.length : Int) > 1048576
  · rw [if_pos c2] at H
    have c2b0 : decide (1048576 < (l0.length : Int)) = true := decide_eq_true c2
    have c2b1 : decide (1048576 < l0.length) = true := decide_eq_true (by omega)
    clear c2
    obtain rfl := Option.some.inj H
    go_enter Try.func5, Try.ntmps5
    go_wp2
    go_ret
    exact ⟨by first | rfl | (simp [errW_none, errW_some] <;> rfl) | (simp [*, errW_none, errW_some] <;> rfl) | (simp [errW_none, errW_some]; exact ⟨rfl, rfl⟩), by repeat (first | (with_reducible first | exact HB.out | apply below_alloc | apply pw_below_drewN | apply below_drew1) | exact HB.out)⟩
  · rw [if_neg c2] at H
    have c2b0 : decide (1048576 < (l0.length : Int)) = false := decide_eq_false c2
    have c2b1 : decide (1048576 < l0.length) = false := decide_eq_false (by omega)
    clear c2
    replace H := Option.bind_eq_some_iff.mp H
    obtain ⟨⟨t502, t503⟩, A30, H⟩ := H
    replace H : ((impl_RestFirst.f k t502 t503).bind fun bt504 => ((spec_RestFirst.f k t502 t503).bind fun bt506 => (if bt504.1 = bt506.1 then (laws_FnRestFirst.j0 k t502 t503 bt504.1 bt504.2 (bt504.2 == bt506.2)) else (laws_FnRestFirst.j0 k t502 t503 bt504.1 bt504.2 false)))) = some r := H
    have A3 := Aside0.mk A30
    clear A30
    replace H := Option.bind_eq_some_iff.mp H
    obtain ⟨⟨t504, t505⟩, A40, H⟩ := H
    replace H : ((spec_RestFirst.f k t502 t503).bind fun bt506 => (if t504 = bt506.1 then (laws_FnRestFirst.j0 k t502 t503 t504 t505 (t505 == bt506.2)) else (laws_FnRestFirst.j0 k t502 t503 t504 t505 false))) = some r := H
    have A4 := Aside0.mk A40
    clear A40
    replace H := Option.bind_eq_some_iff.mp H
    obtain ⟨⟨t506, t507⟩, A50, H⟩ := H
    replace H : (if t504 = t506 then (laws_FnRestFirst.j0 k t502 t503 t504 t505 (t505 == t507)) else (laws_FnRestFirst.j0 k t502 t503 t504 t505 false)) = some r := H
    have A5 := Aside0.mk A50
    clear A50
    have HC6 := Aside0.mk H
    clear H
    go_enter Try.func5, Try.ntmps5
    go_upto_region 6 with (first | ((with_reducible refine gate_callee (f := 16) rfl ?_); refine goesL_ (some 16) rfl rfl Try.func16 (by kernel_rfl) rfl #[.slice A0 l0.length c0] rfl (by (try simp only [List.map_toArray, List.map_cons, List.map_nil]); first | done | rfl | (simp only [List.length_drop, List.length_take]; rfl)) ?_; (with_reducible refine (spec_DrawRestFirst.calls k _ _ l0 t502 t503 _ ?side1 ?side2 A3.out).mono ?_); (case side1 => repeat (first | exact HR0.out | (with_reducible refine Kd.C_alloc ?_ _) | (with_reducible refine Kd.C_drewN ?_ _) | (with_reducible refine Kd.C_drew ?_))); (case side2 => exact HC0.out); rintro e w7 ⟨rfl, hb⟩; refine ⟨_, rfl, ?_⟩; have n0_ := Aside0.mk (below_step (by repeat (first | (with_reducible first | exact HB.out | apply below_alloc | apply pw_below_drewN | apply below_drew1) | exact HB.out)) hb); clear HB; have HB := n0_; clear n0_; (try clear hb); (try clear hb2); (try clear hk); (try clear hi)) | ((with_reducible refine gate_callee (f := 17) rfl ?_); refine goesL_ (some 22) rfl rfl Try.func17 (by kernel_rfl) rfl #[.string t502, .int .i64 t503] rfl (by (try simp only [List.map_toArray, List.map_cons, List.map_nil]); first | done | rfl | (simp only [List.length_drop, List.length_take]; rfl)) ?_; (with_reducible refine (impl_RestFirst.calls k t502 t503 t504 t505 _ A4.out).mono ?_); rintro e w8 ⟨rfl, hb⟩; refine ⟨_, rfl, ?_⟩; have n0_ := Aside0.mk (below_step (by repeat (first | (with_reducible first | exact HB.out | apply below_alloc | apply pw_below_drewN | apply below_drew1) | exact HB.out)) hb); clear HB; have HB := n0_; clear n0_; (try clear hb); (try clear hb2); (try clear hk); (try clear hi)) | ((with_reducible refine gate_callee (f := 18) rfl ?_); refine goesL_ (some 28) rfl rfl Try.func18 (by kernel_rfl) rfl #[.string t502, .int .i64 t503] rfl (by (try simp only [List.map_toArray, List.map_cons, List.map_nil]); first | done | rfl | (simp only [List.length_drop, List.length_take]; rfl)) ?_; (with_reducible refine (spec_RestFirst.calls k t502 t503 t506 t507 _ A5.out).mono ?_); rintro e w9 ⟨rfl, hb⟩; refine ⟨_, rfl, ?_⟩; have n0_ := Aside0.mk (below_step (by repeat (first | (with_reducible first | exact HB.out | apply below_alloc | apply pw_below_drewN | apply below_drew1) | exact HB.out)) hb); clear HB; have HB := n0_; clear n0_; (try clear hb); (try clear hb2); (try clear hk); (try clear hi)))
    (try simp only [Act.put, List.setIfInBounds_toArray, List.set_cons_zero, List.set_cons_succ])
    go_cut [9] (fun v9 wc => ∃ (kq : Nat) (x9_5 : Bool), v9 = .bool x9_5 ∧ Aside0 (laws_FnRestFirst.j0 kq t502 t503 t504 t505 x9_5 = some r) ∧ Aside0 (kq ≤ k) ∧ Aside0 (Below w.heap.size w wc))
    case first =>
      have H := HC6.out
      clear HC6
      by_cases c10 : t504 = t506
      · rw [if_pos c10] at H
        have c10b0 : (t504 == t506) = true := beq_iff_eq.mpr c10
        have c10b1 : (t504 != t506) = false := bne_eq_false_iff_eq.mpr c10
        clear c10
        (first | rw [c10b0] | (simp only [i64_w, i32_w]; rw [c10b0]) | skip)
        have H' := Aside0.mk H
        clear H
        go_wp2
        go_meet
        case rel => exact ⟨_, ((t505 == t507)), (by first | rfl | (simp; done) | (simp [*]; done) | (simp [Int.tmod_eq_emod_of_nonneg]; done)), H', ⟨by first | omega | exact Nat.le_refl _⟩, ⟨by repeat (first | (with_reducible first | exact HB.out | apply below_alloc | apply pw_below_drewN | apply below_drew1) | exact HB.out)⟩⟩
      · rw [if_neg c10] at H
        have c10b0 : (t504 == t506) = false := beq_eq_false_iff_ne.mpr c10
        have c10b1 : (t504 != t506) = true := bne_iff_ne.mpr c10
        (first | rw [c10b0] | (simp only [i64_w, i32_w]; rw [c10b0]) | skip)
        have H' := Aside0.mk H
        clear H
        go_wp2
        go_meet
        case rel => exact ⟨_, (false), (by first | rfl | (simp; done) | (simp [*]; done) | (simp [Int.tmod_eq_emod_of_nonneg]; done)), H', ⟨by first | omega | exact Nat.le_refl _⟩, ⟨by repeat (first | (with_reducible first | exact HB.out | apply below_alloc | apply pw_below_drewN | apply below_drew1) | exact HB.out)⟩⟩
    case rest =>
      clear HC6
      try clear c1
      try clear c2
      try clear c2b0
      try clear c2b1
      try clear p2
      try clear c5
      try clear c10
      try clear c10b0
      try clear c10b1
      obtain ⟨kq, x9_5, rfl, HA, HJ5, HB⟩ := hcut
      cases kq with
      | zero => exact absurd HA.out (by simp [laws_FnRestFirst.j0])
      | succ kj5 =>
        have H := HA.out
        clear HA
        simp only [laws_FnRestFirst.j0] at H
        have HC11 := Aside0.mk H
        clear H
        go_upto_region 7 with (fail)
        go_cut [44] (fun v44 wc => ∃ (kq : Nat) (x44_10 : Bool), v44 = .bool x44_10 ∧ Aside0 (laws_FnRestFirst.j1 kq t502 t503 t504 x9_5 x44_10 = some r) ∧ Aside0 (kq ≤ kj5) ∧ Aside0 (Below w.heap.size w wc))
        case first =>
          have H := HC11.out
          clear HC11
          by_cases c12 : x9_5 = true
          · subst c12
            have H1 : (laws_FnRestFirst.j1 kj5 t502 t503 t504 true (!t505)) = some r := by rw [if_pos rfl] at H; exact H
            clear H
            have H := H1
            clear H1
            have H' := Aside0.mk H
            clear H
            go_wp2
            go_meet
            case rel => exact ⟨_, (!t505), (by first | rfl | (simp; done) | (simp [*]; done) | (simp [Int.tmod_eq_emod_of_nonneg]; done)), H', ⟨by have := HJ5.out; first | omega | exact Nat.le_refl _⟩, ⟨by repeat (first | (with_reducible first | exact HB.out | apply below_alloc | apply pw_below_drewN | apply below_drew1) | exact HB.out)⟩⟩
          · replace c12 := Bool.eq_false_iff.mpr c12
            subst c12
            have H1 : (laws_FnRestFirst.j1 kj5 t502 t503 t504 false true) = some r := by rw [if_neg (show ¬ (false = true) by decide)] at H; exact H
            clear H
            have H := H1
            clear H1
            have H' := Aside0.mk H
            clear H
            go_wp2
            go_meet
            case rel => exact ⟨_, (true), (by first | rfl | (simp; done) | (simp [*]; done) | (simp [Int.tmod_eq_emod_of_nonneg]; done)), H', ⟨by have := HJ5.out; first | omega | exact Nat.le_refl _⟩, ⟨by repeat (first | (with_reducible first | exact HB.out | apply below_alloc | apply pw_below_drewN | apply below_drew1) | exact HB.out)⟩⟩
        case rest =>
          clear HC11
          try clear c1
          try clear c2
          try clear c2b0
          try clear c2b1
          try clear p2
          try clear c5
          try clear c10
          try clear c10b0
          try clear c10b1
          try clear c12
          try clear p2
          obtain ⟨kq, x44_10, rfl, HA, HJ10, HB⟩ := hcut
          cases kq with
          | zero => exact absurd HA.out (by simp [laws_FnRestFirst.j1])
          | succ kj10 =>
            have H := HA.out
            clear HA
            simp only [laws_FnRestFirst.j1] at H
            by_cases c13 : x44_10 = true
            · subst c13
              have H1 : (some x9_5) = some r := by rw [if_pos rfl] at H; exact H
              clear H
              have H := H1
              clear H1
              obtain rfl := Option.some.inj H
              go_wp2
              go_ret
              exact ⟨by first | rfl | (simp [errW_none, errW_some] <;> rfl) | (simp [*, errW_none, errW_some] <;> rfl) | (simp [errW_none, errW_some]; exact ⟨rfl, rfl⟩), by repeat (first | (with_reducible first | exact HB.out | apply below_alloc | apply pw_below_drewN | apply below_drew1) | exact HB.out)⟩
            · replace c13 := Bool.eq_false_iff.mpr c13
              subst c13
              have H1 : (laws_FnRestFirst.l0 kj10 t502 t503 t504 0) = some r := by rw [if_neg (show ¬ (false = true) by decide)] at H; exact H
              clear H
              have H := H1
              clear H1
              have H' := Aside0.mk H
              clear H
              go_wp2
              go_loopg [10] kj10 (fun kq v10 w' => ∃ (x10_3 : Int), v10 = .int .i64 x10_3 ∧ Aside0 (laws_FnRestFirst.l0 kq t502 t503 t504 x10_3 = some r) ∧ Aside0 (kq ≤ kj10) ∧ Aside0 (Below w.heap.size w w'))
              case atStart => exact ⟨(0), (by first | rfl | (simp; done) | (simp [*]; done) | (simp [Int.tmod_eq_emod_of_nonneg]; done)), H', ⟨Nat.le_refl _⟩, ⟨by repeat (first | (with_reducible first | exact HB.out | apply below_alloc | apply pw_below_drewN | apply below_drew1) | exact HB.out)⟩⟩
              case round =>
                clear H'
                try clear c1
                try clear c2
                try clear c2b0
                try clear c2b1
                try clear p2
                try clear c5
                try clear c10
                try clear c10b0
                try clear c10b1
                try clear c12
                try clear c13
                try clear p2
                obtain ⟨x10_3, rfl, HA, HK3, HB⟩ := hrel
                cases gk with
                | zero => exact absurd HA.out (by simp [laws_FnRestFirst.l0])
                | succ k3 =>
                  have H := HA.out
                  clear HA
                  simp only [laws_FnRestFirst.l0] at H
                  by_cases c14 : x10_3 < t504
                  · rw [if_pos c14] at H
                    have c14b0 : decide (x10_3 < t504) = true := decide_eq_true c14
                    clear c14
                    replace H := Option.bind_eq_some_iff.mp H
                    obtain ⟨t508, A150, H⟩ := H
                    replace H : (if t508 = true then (some false) else (laws_FnRestFirst.l0 k3 t502 t503 t504 (wrap64 (x10_3 + 1)))) = some r := H
                    have A15 := Aside0.mk A150
                    clear A150
                    by_cases c16 : t508 = true
                    · subst c16
                      have H1 : (some false) = some r := by rw [if_pos rfl] at H; exact H
                      clear H
                      have H := H1
                      clear H1
                      obtain rfl := Option.some.inj H
                      go_wp2_with (first | ((with_reducible refine gate_callee (f := 19) rfl ?_); refine goesL_ (some 54) rfl rfl Try.func19 (by kernel_rfl) rfl #[.string t502, .int .i64 x10_3, .int .i64 t503] rfl (by (try simp only [List.map_toArray, List.map_cons, List.map_nil]); first | done | rfl | (simp only [List.length_drop, List.length_take]; rfl)) ?_; (with_reducible refine (impl_RestSame.calls k3 t502 x10_3 t503 true _ A15.out).mono ?_); rintro e w17 ⟨rfl, hb⟩; refine ⟨_, rfl, ?_⟩; have n0_ := Aside0.mk (below_step (by repeat (first | (with_reducible first | exact HB.out | apply below_alloc | apply pw_below_drewN | apply below_drew1) | exact HB.out)) hb); clear HB; have HB := n0_; clear n0_; (try clear hb); (try clear hb2); (try clear hk); (try clear hi)))
                      go_ret
                      exact ⟨by first | rfl | (simp [errW_none, errW_some] <;> rfl) | (simp [*, errW_none, errW_some] <;> rfl) | (simp [errW_none, errW_some]; exact ⟨rfl, rfl⟩), by repeat (first | (with_reducible first | exact HB.out | apply below_alloc | apply pw_below_drewN | apply below_drew1) | exact HB.out)⟩
                    · replace c16 := Bool.eq_false_iff.mpr c16
                      subst c16
                      have H1 : (laws_FnRestFirst.l0 k3 t502 t503 t504 (wrap64 (x10_3 + 1))) = some r := by rw [if_neg (show ¬ (false = true) by decide)] at H; exact H
                      clear H
                      have H := H1
                      clear H1
                      have H' := Aside0.mk H
                      clear H
                      go_wp2_with (first | ((with_reducible refine gate_callee (f := 19) rfl ?_); refine goesL_ (some 54) rfl rfl Try.func19 (by kernel_rfl) rfl #[.string t502, .int .i64 x10_3, .int .i64 t503] rfl (by (try simp only [List.map_toArray, List.map_cons, List.map_nil]); first | done | rfl | (simp only [List.length_drop, List.length_take]; rfl)) ?_; (with_reducible refine (impl_RestSame.calls k3 t502 x10_3 t503 false _ A15.out).mono ?_); rintro e w18 ⟨rfl, hb⟩; refine ⟨_, rfl, ?_⟩; have n0_ := Aside0.mk (below_step (by repeat (first | (with_reducible first | exact HB.out | apply below_alloc | apply pw_below_drewN | apply below_drew1) | exact HB.out)) hb); clear HB; have HB := n0_; clear n0_; (try clear hb); (try clear hb2); (try clear hk); (try clear hi)))
                      go_roundg k3
                      case measure => have := HJ5.out; have := HJ10.out; have := HK3.out; omega
                      case rel => exact ⟨(wrap64 (x10_3 + 1)), (by first | rfl | (simp; done) | (simp [*]; done) | (simp [Int.tmod_eq_emod_of_nonneg]; done)), H', ⟨by have := HJ5.out; have := HJ10.out; have := HK3.out; omega⟩, ⟨by repeat (first | (with_reducible first | exact HB.out | apply below_alloc | apply pw_below_drewN | apply below_drew1) | exact HB.out)⟩⟩
                  · rw [if_neg c14] at H
                    have c14b0 : decide (x10_3 < t504) = false := decide_eq_false c14
                    clear c14
                    replace H := Option.bind_eq_some_iff.mp H
                    obtain ⟨t509, A190, H⟩ := H
                    replace H : (if t509 = true then (some (decide (t504 ≤ t503))) else (some false)) = some r := H
                    have A19 := Aside0.mk A190
                    clear A190
                    by_cases c20 : t509 = true
                    · subst c20
                      have H1 : (some (decide (t504 ≤ t503))) = some r := by rw [if_pos rfl] at H; exact H
                      clear H
                      have H := H1
                      clear H1
                      obtain rfl := Option.some.inj H
                      go_wp2_with (first | ((with_reducible refine gate_callee (f := 19) rfl ?_); refine goesL_ (some 58) rfl rfl Try.func19 (by kernel_rfl) rfl #[.string t502, .int .i64 t504, .int .i64 t503] rfl (by (try simp only [List.map_toArray, List.map_cons, List.map_nil]); first | done | rfl | (simp only [List.length_drop, List.length_take]; rfl)) ?_; (with_reducible refine (impl_RestSame.calls k3 t502 t504 t503 true _ A19.out).mono ?_); rintro e w21 ⟨rfl, hb⟩; refine ⟨_, rfl, ?_⟩; have n0_ := Aside0.mk (below_step (by repeat (first | (with_reducible first | exact HB.out | apply below_alloc | apply pw_below_drewN | apply below_drew1) | exact HB.out)) hb); clear HB; have HB := n0_; clear n0_; (try clear hb); (try clear hb2); (try clear hk); (try clear hi)))
                      go_ret
                      exact ⟨by first | rfl | (simp [errW_none, errW_some] <;> rfl) | (simp [*, errW_none, errW_some] <;> rfl) | (simp [errW_none, errW_some]; exact ⟨rfl, rfl⟩), by repeat (first | (with_reducible first | exact HB.out | apply below_alloc | apply pw_below_drewN | apply below_drew1) | exact HB.out)⟩
                    · replace c20 := Bool.eq_false_iff.mpr c20
                      subst c20
                      have H1 : (some false) = some r := by rw [if_neg (show ¬ (false = true) by decide)] at H; exact H
                      clear H
                      have H := H1
                      clear H1
                      obtain rfl := Option.some.inj H
                      go_wp2_with (first | ((with_reducible refine gate_callee (f := 19) rfl ?_); refine goesL_ (some 58) rfl rfl Try.func19 (by kernel_rfl) rfl #[.string t502, .int .i64 t504, .int .i64 t503] rfl (by (try simp only [List.map_toArray, List.map_cons, List.map_nil]); first | done | rfl | (simp only [List.length_drop, List.length_take]; rfl)) ?_; (with_reducible refine (impl_RestSame.calls k3 t502 t504 t503 false _ A19.out).mono ?_); rintro e w22 ⟨rfl, hb⟩; refine ⟨_, rfl, ?_⟩; have n0_ := Aside0.mk (below_step (by repeat (first | (with_reducible first | exact HB.out | apply below_alloc | apply pw_below_drewN | apply below_drew1) | exact HB.out)) hb); clear HB; have HB := n0_; clear n0_; (try clear hb); (try clear hb2); (try clear hk); (try clear hi)))
                      go_ret
                      exact ⟨by first | rfl | (simp [errW_none, errW_some] <;> rfl) | (simp [*, errW_none, errW_some] <;> rfl) | (simp [errW_none, errW_some]; exact ⟨rfl, rfl⟩), by repeat (first | (with_reducible first | exact HB.out | apply below_alloc | apply pw_below_drewN | apply below_drew1) | exact HB.out)⟩

/-- THE ONE PURE STATEMENT of laws_FnRestFirst: yours. -/
def laws_FnRestFirst.Pure : Prop := ∀ (l0 : List Int), l0.length ≤ maxLen → l0.length * 1 ≤ 140737488351232 → (∀ x ∈ l0, (Lit.int .u8 x).wf = true) → ∃ k, laws_FnRestFirst.f k l0 = some true
theorem laws_FnRestFirst.walk (P : laws_FnRestFirst.Pure) (a0 : Option Addr) (len0 cap0 : Nat) (z0 : List Int) (w : World) (w0 : (a0 = none ∧ len0 = 0 ∧ cap0 = 0 ∧ z0 = []) ∨ ∃ x, a0 = some x ∧ len0 ≤ cap0 ∧ cap0 ≤ maxLen ∧ z0.length = cap0 ∧ (∀ i, i < z0.length → w.cell? (x.add i) = some (.int .u8 (z0.getD i 0))) ∧ ∀ n ∈ z0, (Lit.int .u8 n).wf = true) (y0 : len0 * 1 ≤ 140737488351232) :
    Calls Try.prog 5 #[.slice a0 len0 cap0] w fun e w' => e = .returned (.bool true) ∧ Below w.heap.size w w' := by
  obtain ⟨l0, rfl, hr0, hm0, hw0, hc0⟩ := ReadsInt.ofRowC w0
  obtain ⟨k, h⟩ := P l0 hm0 y0 hw0
  refine (laws_FnRestFirst.calls k _ _ l0 true w (Kd.C_of_reads (d := (0 : Int)) (h1 := fun _ => rfl) hr0) hc0 h).mono ?_
  rintro e w' ⟨rfl, hd⟩
  exact ⟨rfl, hd⟩

end Go.Proofs.Ytidfckekbaedpaa.P

-- impl.RestFirst and spec.RestFirst tell the least number of the same rest.
namespace Go.Proofs.Ytidfckekbaedpaa.P
open Go.RowKit Go.Proofs.YtidfckekbaedpaaW.PrintWords Go.Proofs.YtidfckekbaedpaaW.PrintLast Go.Proofs.YtidfckekbaedpaaW.PrintMore
set_option linter.unusedVariables false
set_option linter.unusedSimpArgs false

noncomputable def rfirst (s : List UInt8) (n : Int) : Int × Bool := if (parse s).isSome && decide (0 ≤ n ∧ n ≤ 1000) then (((rpl (setf s) n.toNat : Nat) : Int), true) else (0, false)
theorem rfirst_none {s : List UInt8} (h : parse s = none) (n : Int) : rfirst s n = (0, false) := by unfold rfirst; rw [h]; rfl
theorem rfirst_out {s : List UInt8} {n : Int} (h : ¬ (0 ≤ n ∧ n ≤ 1000)) : rfirst s n = (0, false) := by unfold rfirst; rw [decide_eq_false h, Bool.and_false]; rfl
theorem rfirst_some {s : List UInt8} {a b : List Bool} (h : parse s = some (a, b)) {n : Nat} (hn : n ≤ 1000) : rfirst s n = (((rpl (hasB a b) n : Nat) : Int), true) := by
  unfold rfirst; rw [h, setf_some h, Int.toNat_natCast, decide_eq_true (by omega : 0 ≤ (n : Int) ∧ (n : Int) ≤ 1000)]; rfl
theorem irestFirst_f (s : ByteArray) (hs : s.size ≤ 70368744177664) (n : Int) : Ev (fun k => impl_RestFirst.f k s n) (rfirst (chrs s) n) := by
  refine Ev.congr (fun k => rfl) (Ev.bind (tidied_f s hs) ?_)
  unfold tdd
  cases h : parse (chrs s) with
  | none => rw [rfirst_none h]; simp only [Bool.false_eq_true, if_false]; exact Ev.now _
  | some ab =>
    have hb := parse_some (a := ab.1) (b := ab.2) h
    have ht := cn_tidy (t := ab.1) hb.2.2
    have h1 := ht.tl
    have h2 := ht.rl
    simp only [if_true, in_f, Option.bind_some]
    by_cases hi : 0 ≤ n ∧ n ≤ 1000
    · obtain ⟨m, rfl⟩ := Int.eq_ofNat_of_zero_le hi.1
      rw [rfirst_some (a := ab.1) (b := ab.2) h (by omega)]
      simp only [hi, decide_true, if_true, and_self]
      rw [irest_f _ _ ht.canon.1.1 (by omega) m (by omega)]
      exact Ev.now _
    · rw [rfirst_out hi]; simp only [hi, decide_false, Bool.false_eq_true, if_false]; exact Ev.now _
theorem srestFirst_l0 (a b : List Bool) (hb : b ≠ []) (ha : a.length ≤ 60) (hbl : b.length ≤ 60) (n : Nat) : ∀ (d x : Nat), x ≤ rpl (hasB a b) n → rpl (hasB a b) n - x = d →
    Ev (fun k => spec_RestFirst.l0 k (rtext (hasB a b) n) x a b) (((rpl (hasB a b) n : Nat) : Int), true) := by
  have hp := List.length_pos_iff.2 hb
  have hper := hasB_per a b
  have hlt := rpl_lt hp hper n
  have hle := rnum_le hp hper
  intro d
  induction d with
  | zero =>
    intro x h1 h2
    have e : x = rpl (hasB a b) n := by omega
    subst e
    have h3 := down_f a b hb (by omega) (rpl (hasB a b) n) (by omega)
    have he : textOf (cn (shf (hasB a b) (rpl (hasB a b) n))).1 (cn (shf (hasB a b) (rpl (hasB a b) n))).2 = rtext (hasB a b) n := (rtext_eq hp hper ha hbl _ _).2 (rpl_self hlt)
    rw [he] at h3
    refine Ev.step (f := fun k => (spec_l5Down.f k a b ((rpl (hasB a b) n : Nat) : Int)).bind fun t489 => (if t489.toList = (rtext (hasB a b) n).toList then (some (((rpl (hasB a b) n : Nat) : Int), true)) else (spec_RestFirst.l0 k (rtext (hasB a b) n) (wrap64 (((rpl (hasB a b) n : Nat) : Int) + 1)) a b))) (fun k => rfl) (Ev.bind h3 ?_)
    simp only [if_true]; exact Ev.now _
  | succ d ih =>
    intro x h1 h2
    have h3 := down_f a b hb (by omega) x (by omega)
    have hne : ¬ (textOf (cn (shf (hasB a b) x)).1 (cn (shf (hasB a b) x)).2).toList = (rtext (hasB a b) n).toList := fun e => by
      have := (rtext_eq hp hper ha hbl x n).1 (toList_inj e)
      rw [rpl_self (by omega)] at this
      omega
    refine Ev.step (f := fun k => (spec_l5Down.f k a b (x : Int)).bind fun t489 => (if t489.toList = (rtext (hasB a b) n).toList then (some ((x : Int), true)) else (spec_RestFirst.l0 k (rtext (hasB a b) n) ((x + 1 : Nat) : Int) a b))) (fun k => ?_) (Ev.bind h3 ?_)
    · simp only [spec_RestFirst.l0]; rw [wsucc (by omega)]
    · simp only [if_neg hne]; exact ih (x + 1) (by omega) (by omega)
theorem srestFirst_f (s : ByteArray) (hs : s.size ≤ 70368744177664) (n : Int) : Ev (fun k => spec_RestFirst.f k s n) (rfirst (chrs s) n) := by
  cases h : parse (chrs s) with
  | none =>
    obtain ⟨a, b, he⟩ := given_none hs n h
    rw [rfirst_none h]
    refine Ev.congr (fun k => rfl) (Ev.bind he ?_)
    simp only [Bool.false_eq_true, if_false]; exact Ev.now _
  | some ab =>
    have hb := parse_some (a := ab.1) (b := ab.2) h
    refine Ev.congr (fun k => rfl) (Ev.bind (given_some (a := ab.1) (b := ab.2) hs n h) ?_)
    by_cases hn : 0 ≤ n ∧ n ≤ 1000
    · simp only [hn, and_self, decide_true, if_true]
      obtain ⟨m, rfl⟩ := Int.eq_ofNat_of_zero_le hn.1
      rw [rfirst_some (a := ab.1) (b := ab.2) h (by omega)]
      exact Ev.bind (down_f ab.1 ab.2 hb.2.2 (by omega) m (by omega)) (srestFirst_l0 ab.1 ab.2 hb.2.2 hb.1 hb.2.1 m _ 0 (by omega) rfl)
    · rw [rfirst_out hn]
      simp only [hn, decide_false, Bool.false_eq_true, if_false]; exact Ev.now _

end Go.Proofs.Ytidfckekbaedpaa.P

-- For every code the law FnRestFirst holds.
namespace Go.Proofs.Ytidfckekbaedpaa.P
open Go.RowKit Go.Proofs.YtidfckekbaedpaaW.PrintWords Go.Proofs.YtidfckekbaedpaaW.PrintLast Go.Proofs.YtidfckekbaedpaaW.PrintMore
set_option linter.unusedVariables false
set_option linter.unusedSimpArgs false

theorem drawRestFirst_f (l : List Int) (h : ∀ x ∈ l, (Lit.int .u8 x).wf = true) : ∃ s n, Few s ∧ Ev (fun k => spec_DrawRestFirst.f k l) (s, n) := by
  obtain ⟨s, q, hf, hq, he⟩ := set91_f (code_of h) 0 (by omega)
  obtain ⟨n, q2, _, _, _, he2⟩ := num91_f (code_of h) q 1000 (by omega) (by omega)
  refine ⟨s, n, hf, Ev.congr (f := fun k => (spec_l91Set.f k (l.take 2000) 0).bind fun bt546 => ((spec_l91Number.f k (l.take 2000) bt546.2 1000).bind fun bt548 => (some (bt546.1, bt548.1)))) (fun k => ?_) (Ev.bind he (Ev.bind he2 (Ev.now _)))⟩
  unfold spec_DrawRestFirst.f; rw [open_f]; rfl
theorem rsame_nat {s : List UInt8} {a b : List Bool} (h : parse s = some (a, b)) {i j : Nat} (hi : i ≤ 1000) (hj : j ≤ 1000) : rsame s i j = decide (rpl (hasB a b) i = rpl (hasB a b) j) := by
  unfold rsame
  rw [h]
  simp only [Int.toNat_natCast]
  rw [decide_eq_true (by omega : 0 ≤ (i : Int) ∧ (i : Int) ≤ 1000), decide_eq_true (by omega : 0 ≤ (j : Int) ∧ (j : Int) ≤ 1000)]
  rfl
theorem lrf_l0 (s : ByteArray) (hs : s.size ≤ 70368744177664) {a b : List Bool} (h : parse (chrs s) = some (a, b)) (n : Nat) (hn : n ≤ 1000) : ∀ (d i : Nat), i ≤ rpl (hasB a b) n → rpl (hasB a b) n - i = d →
    Ev (fun k => laws_FnRestFirst.l0 k s n ((rpl (hasB a b) n : Nat) : Int) i) true := by
  have hb := parse_some h
  have hp := List.length_pos_iff.2 hb.2.2
  have hlt := rpl_lt hp (hasB_per a b) n
  have hle := rnum_le hp (hasB_per a b)
  have hln := rpl_le (f := hasB a b) n
  intro d
  induction d with
  | zero =>
    intro i h1 h2
    have e : i = rpl (hasB a b) n := by omega
    subst e
    have h3 := restSame_f s hs ((rpl (hasB a b) n : Nat) : Int) n
    rw [rsame_nat h (by omega) hn, rpl_self hlt, decide_eq_true rfl] at h3
    refine Ev.step (f := fun k => (impl_RestSame.f k s ((rpl (hasB a b) n : Nat) : Int) n).bind fun t509 => (if t509 = true then (some (decide (((rpl (hasB a b) n : Nat) : Int) ≤ (n : Int)))) else (some false))) (fun k => ?_) (Ev.bind h3 ?_)
    · simp only [laws_FnRestFirst.l0]; rw [if_neg (by omega)]
    · simp only [if_true]
      rw [decide_eq_true (by omega : ((rpl (hasB a b) n : Nat) : Int) ≤ (n : Int))]; exact Ev.now _
  | succ d ih =>
    intro i h1 h2
    have h3 := restSame_f s hs (i : Int) n
    rw [rsame_nat h (by omega) hn, rpl_self (by omega), decide_eq_false (by omega)] at h3
    refine Ev.step (f := fun k => (impl_RestSame.f k s (i : Int) n).bind fun t508 => (if t508 = true then (some false) else (laws_FnRestFirst.l0 k s n ((rpl (hasB a b) n : Nat) : Int) ((i + 1 : Nat) : Int)))) (fun k => ?_) (Ev.bind h3 ?_)
    · simp only [laws_FnRestFirst.l0]; rw [if_pos (by omega), wsucc (by omega)]
    · simp only [Bool.false_eq_true, if_false]; exact ih (i + 1) (by omega) (by omega)
theorem lawRestFirst_ev (l : List Int) (h : ∀ x ∈ l, (Lit.int .u8 x).wf = true) : Ev (fun k => laws_FnRestFirst.f k l) true := by
  by_cases hl : (l.length : Int) > 1048576
  · refine Ev.congr (f := fun _ => some true) (fun k => ?_) (Ev.now _)
    unfold laws_FnRestFirst.f; rw [if_pos hl]
  · obtain ⟨s, n, hf, hd⟩ := drawRestFirst_f l h
    have hz := hf.size
    have hs : s.size ≤ 70368744177664 := by omega
    have e1 := irestFirst_f s hs n
    have e2 := srestFirst_f s hs n
    refine Ev.congr (f := fun k => (spec_DrawRestFirst.f k l).bind fun bt502 => ((impl_RestFirst.f k bt502.1 bt502.2).bind fun bt504 => ((spec_RestFirst.f k bt502.1 bt502.2).bind fun bt506 => (if bt504.1 = bt506.1 then (laws_FnRestFirst.j0 k bt502.1 bt502.2 bt504.1 bt504.2 (bt504.2 == bt506.2)) else (laws_FnRestFirst.j0 k bt502.1 bt502.2 bt504.1 bt504.2 false))))) (fun k => ?_) (Ev.bind hd (Ev.bind e1 (Ev.bind e2 ?_)))
    · unfold laws_FnRestFirst.f; rw [if_neg hl]
    · simp only [if_true, BEq.rfl]
      have out : Ev (fun k => laws_FnRestFirst.j0 k s n 0 false true) true := by
        refine Ev.step (f := fun k => laws_FnRestFirst.j1 k s n 0 true true) (fun k => ?_) (Ev.step (f := fun k => some true) (fun k => ?_) (Ev.now _))
        · simp only [laws_FnRestFirst.j0]; rfl
        · simp only [laws_FnRestFirst.j1]; rfl
      cases hp : parse (chrs s) with
      | none => rw [rfirst_none hp]; exact out
      | some ab =>
        by_cases hn : 0 ≤ n ∧ n ≤ 1000
        · obtain ⟨m, rfl⟩ := Int.eq_ofNat_of_zero_le hn.1
          rw [rfirst_some (a := ab.1) (b := ab.2) hp (by omega)]
          refine Ev.step (f := fun k => laws_FnRestFirst.j1 k s m ((rpl (hasB ab.1 ab.2) m : Nat) : Int) true false) (fun k => ?_) (Ev.step (f := fun k => laws_FnRestFirst.l0 k s m ((rpl (hasB ab.1 ab.2) m : Nat) : Int) 0) (fun k => ?_) (lrf_l0 s hs (a := ab.1) (b := ab.2) hp m (by omega) _ 0 (by omega) rfl))
          · simp only [laws_FnRestFirst.j0]; rfl
          · simp only [laws_FnRestFirst.j1]; rfl
        · rw [rfirst_out hn]; exact out
theorem lawRestFirst_pure : laws_FnRestFirst.Pure := fun l _ _ h => (lawRestFirst_ev l h).rounds
end Go.Proofs.Ytidfckekbaedpaa.P

-- For every code the law FnRestFirst holds.
namespace Go.Proofs.Ytidfckekbaedpaa.Pure
theorem FnRestFirst : Go.Proofs.Ytidfckekbaedpaa.P.laws_FnRestFirst.Pure := Go.Proofs.Ytidfckekbaedpaa.P.lawRestFirst_pure
end Go.Proofs.Ytidfckekbaedpaa.Pure
