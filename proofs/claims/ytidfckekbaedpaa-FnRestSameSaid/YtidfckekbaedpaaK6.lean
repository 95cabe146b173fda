/- What these laws reach, joined by a program of this session: contracts (written by that program over the kit's print, or by hand) and plain lemmas. -/
import Derived.Test.YtidfckekbaedpaaK1
import Derived.Test.YtidfckekbaedpaaK3
import Derived.Test.YtidfckekbaedpaaK4
import Derived.Test.YtidfckekbaedpaaK5
namespace Go.Proofs.Ytidfckekbaedpaa.P
open Go.RowKit Go.Proofs.YtidfckekbaedpaaW.PrintWords Go.Proofs.YtidfckekbaedpaaW.PrintLast Go.Proofs.YtidfckekbaedpaaW.PrintMore
attribute [local go_sem] max2_int min2_int max_two min_two max_three min_three max_four min_four   -- for this text's walks alone
set_option linter.unusedVariables false
set_option linter.unusedSimpArgs false

/-! ### spec_RestText: function 24 -/
def spec_RestText.f (k : Nat) (a0 : ByteArray) (a1 : Int) : Option (ByteArray × Bool) := (spec_l5Given.f k a0 a1).bind fun bt550 => (if bt550.2.2 = true then ((spec_l5Down.f k bt550.1 bt550.2.1 a1).bind fun t558 => (some (t558, true))) else (some ((⟨#[]⟩ : ByteArray), false)))
theorem spec_RestText.mono : ∀ a0 a1 k, LeO (spec_RestText.f k a0 a1) (spec_RestText.f (k + 1) a0 a1) := by
  intro a0 a1 k
  unfold spec_RestText.f
  repeat' first
      | (with_reducible exact spec_l5Down.mono _ _ _ _)
      | (with_reducible exact spec_l5Given.mono _ _ _)
      | (with_reducible exact LeO.refl _)
      | (with_reducible exact LeO.none _)
      | (with_reducible refine LeO.ite ?_ ?_)
      | (with_reducible refine LeO.bind ?_ (fun _ => ?_))
      | exact spec_l5Down.mono _ _ _ _
      | exact spec_l5Given.mono _ _ _
      | exact LeO.none _
      | refine LeO.ite ?_ ?_
      | refine LeO.bind ?_ (fun _ => ?_)
set_option maxHeartbeats 8000000 in
set_option maxRecDepth 100000 in
theorem spec_RestText.calls (k : Nat) (a0 : ByteArray) (a1 : Int) (r1 : ByteArray) (r2 : Bool) (w : World) (h : spec_RestText.f k a0 a1 = some (r1, r2)) :
    Calls Try.prog 24 #[.string a0, .int .i64 a1] w fun e w' => e = .returned (.tuple #[.string r1, .bool r2]) ∧ Below w.heap.size w w' := by
  have hu55 := Try.underlying55
  have HB := Aside0.mk (Below.refl w.heap.size w)
  have H : ((spec_l5Given.f k a0 a1).bind fun bt550 => (if bt550.2.2 = true then ((spec_l5Down.f k bt550.1 bt550.2.1 a1).bind fun t558 => (some (t558, true))) else (some ((⟨#[]⟩ : ByteArray), false)))) = some (r1, r2) := h
  clear h
  replace H := Option.bind_eq_some_iff.mp H
  obtain ⟨⟨t550, t553, t556⟩, A30, H⟩ := H
  replace H : (if t556 = true then ((spec_l5Down.f k t550 t553 a1).bind fun t558 => (some (t558, true))) else (some ((⟨#[]⟩ : ByteArray), false))) = some (r1, r2) := H
  have A3 := Aside0.mk A30
  clear A30
  by_cases c4 : t556 = true
  · subst c4
    have H1 : ((spec_l5Down.f k t550 t553 a1).bind fun t558 => (some (t558, true))) = some (r1, r2) := by rw [if_pos rfl] at H; exact H
    clear H
    have H := H1
    clear H1
    replace H := Option.bind_eq_some_iff.mp H
    obtain ⟨t558, A50, H⟩ := H
    replace H : (some (t558, true)) = some (r1, r2) := H
    have A5 := Aside0.mk A50
    clear A50
    simp only [Option.some.injEq, Prod.mk.injEq] at H
    obtain ⟨rfl, rfl⟩ := H
    go_enter Try.func24, Try.ntmps24
    go_wp2_with (first | ((with_reducible refine gate_callee (f := 46) rfl ?_); refine goesL_ (some 11) rfl rfl Try.func46 (by kernel_rfl) rfl #[.string a0, .int .i64 a1] rfl (by (try simp only [List.map_toArray, List.map_cons, List.map_nil]); first | done | rfl | (simp only [List.length_drop, List.length_take]; rfl)) ?_; (with_reducible refine (spec_l5Given.calls k a0 a1 t550 t553 true _ A3.out).mono ?_); rintro e w6 ⟨v551, v554, rfl, ho0, ho1, hb⟩; refine ⟨_, rfl, ?_⟩; have n0_ := Aside0.mk (Kd.R_lower ho0 (below_size (by repeat (first | (with_reducible first | exact HB.out | apply below_alloc | apply pw_below_drewN | apply below_drew1) | exact HB.out)))); have n1_ := Aside0.mk (Kd.R_lower ho1 (below_size (by repeat (first | (with_reducible first | exact HB.out | apply below_alloc | apply pw_below_drewN | apply below_drew1) | exact HB.out)))); have n2_ := Aside0.mk (below_step (by repeat (first | (with_reducible first | exact HB.out | apply below_alloc | apply pw_below_drewN | apply below_drew1) | exact HB.out)) hb); clear HB; have HO552 := n0_; have HO555 := n1_; have HB := n2_; clear n0_ n1_ n2_; (try clear hb); (try clear hb2); (try clear hk); (try clear hi); (try clear ho0); (try clear ho1)) | ((with_reducible refine gate_dst (N := 6) rfl ?_); refine box_event ?hg (N := 6) ?hd (cs := #[.slice none 0 0, .slice none 0 0]) (t := 55) ?hr ?_; (case hd => rfl); (case hg => rfl); (case hr => first | (go_simp; done) | (go_simp; rfl)); intro gb557 hg w7 hbox hb; have n0_ := Aside0.mk (Kd.R_below (by (with_reducible repeat (first | apply Kd.R_alloc | apply Kd.R_drewN | apply Kd.R_drew)); exact HO552.out) hb); have n1_ := Aside0.mk (Kd.R_below (by (with_reducible repeat (first | apply Kd.R_alloc | apply Kd.R_drewN | apply Kd.R_drew)); exact HO555.out) hb); have n2_ := Aside0.mk (below_step (by repeat (first | (with_reducible first | exact HB.out | apply below_alloc | apply pw_below_drewN | apply below_drew1) | exact HB.out)) hb); have n3_ := Aside0.mk (hbox); have n4_ := Aside0.mk ((by rw [hg]; exact (below_size (by repeat (first | (with_reducible first | exact HB.out | apply below_alloc | apply pw_below_drewN | apply below_drew1) | exact HB.out))) : w.heap.size ≤ gb557)); have n5_ := Aside0.mk ((by rw [hg]; exact (below_size (by repeat (first | (with_reducible first | exact HB.out | apply below_alloc | apply pw_below_drewN | apply below_drew1) | exact HB.out))) : w.heap.size ≤ gb557)); clear HO552; clear HO555; clear HB; have HO552 := n0_; have HO555 := n1_; have HB := n2_; have BK557 := n3_; have GW557 := n4_; have GE557 := n5_; clear n0_ n1_ n2_ n3_ n4_ n5_; clear hb hbox hg; obtain ⟨Ao8, co8, eo8⟩ := Kd.R_slice HO552.out; subst eo8; have hcz9_0 : w7.cell? ⟨gb557, 0, none⟩ = some (.slice none 0 0) := (blk_cell BK557.out 0).trans rfl; have hcz9_1 : w7.cell? ⟨gb557, 1, none⟩ = some (.slice none 0 0) := (blk_cell BK557.out 1).trans rfl; have hfz9_0 := blk_frozen BK557.out 0; have hfz9_1 := blk_frozen BK557.out 1; obtain ⟨Ao10, co10, eo10⟩ := Kd.R_slice HO555.out; subst eo10) | ((with_reducible refine gate_callee (f := 47) rfl ?_); refine goesL_ (some 18) rfl rfl Try.func47 (by kernel_rfl) rfl #[.agg #[.slice Ao8 t550.length co8, .slice Ao10 t553.length co10], .int .i64 a1] rfl (by (try simp only [List.map_toArray, List.map_cons, List.map_nil]); first | done | rfl | (simp only [List.length_drop, List.length_take]; rfl)) ?_; (with_reducible refine (spec_l5Down.calls k _ _ t550 _ _ t553 a1 t558 _ ?side1 ?side2 ?side3 ?side4 A5.out).mono ?_); (case side1 => refine (Kd.R_reads' (e := 4) (base := w.heap.size) (ok := fun k_ => some k_ ≠ (.slice Ao10 t553.length co10 : Value).ownBlock) (n := t550.length) (c := co8) ?_).2.2; exact (by (with_reducible repeat (first | apply Kd.R_alloc | apply Kd.R_drewN | apply Kd.R_drew)); exact (Kd.R_mono (Kd.R_far (p := ⟨gb557, 1, none⟩) (Kd.R_far (p := ⟨gb557, 0, none⟩) (Kd.R_types HO552.out BK557.out (by decide)) (fun _ hk => hk.2) (.slice Ao8 t550.length co8)) (fun _ hk => hk.2) (.slice Ao10 t553.length co10)) (fun _ h_ => h_.1)))); (case side2 => exact (Kd.R_reads' HO552.out).2.1); (case side3 => refine (Kd.R_reads' (e := 4) (base := w.heap.size) (ok := fun k_ => some k_ ≠ (.slice Ao8 t550.length co8 : Value).ownBlock) (n := t553.length) (c := co10) ?_).2.2; exact (by (with_reducible repeat (first | apply Kd.R_alloc | apply Kd.R_drewN | apply Kd.R_drew)); exact (Kd.R_mono (Kd.R_far (p := ⟨gb557, 1, none⟩) (Kd.R_far (p := ⟨gb557, 0, none⟩) (Kd.R_types HO555.out BK557.out (by decide)) (fun _ hk => hk.2) (.slice Ao8 t550.length co8)) (fun _ hk => hk.2) (.slice Ao10 t553.length co10)) (fun _ h_ => h_.1)))); (case side4 => exact (Kd.R_reads' HO555.out).2.1); rintro e w11 ⟨rfl, hb⟩; refine ⟨_, rfl, ?_⟩; have n0_ := Aside0.mk (Kd.R_below (by (with_reducible repeat (first | apply Kd.R_alloc | apply Kd.R_drewN | apply Kd.R_drew)); exact (Kd.R_mono (Kd.R_far (p := ⟨gb557, 1, none⟩) (Kd.R_far (p := ⟨gb557, 0, none⟩) (Kd.R_types HO552.out BK557.out (by decide)) (fun _ hk => hk.2) (.slice Ao8 t550.length co8)) (fun _ hk => hk.2) (.slice Ao10 t553.length co10)) (fun _ h_ => h_.1))) hb); have n1_ := Aside0.mk (Kd.R_below (by (with_reducible repeat (first | apply Kd.R_alloc | apply Kd.R_drewN | apply Kd.R_drew)); exact (Kd.R_mono (Kd.R_far (p := ⟨gb557, 1, none⟩) (Kd.R_far (p := ⟨gb557, 0, none⟩) (Kd.R_types HO555.out BK557.out (by decide)) (fun _ hk => hk.2) (.slice Ao8 t550.length co8)) (fun _ hk => hk.2) (.slice Ao10 t553.length co10)) (fun _ h_ => h_.1))) hb); have n2_ := Aside0.mk (blk_below (g := gb557) (o := .cells #[.slice Ao8 t550.length co8, .slice Ao10 t553.length co10] 55 (0, 0)) (by (with_reducible repeat (first | refine blk_drewN ?_ _ | refine blk_drew ?_ | refine blk_alloc ?_ _)); refine blk_put (cs := #[.slice Ao8 t550.length co8, .slice none 0 0]) ?_ 1 _ rfl; (with_reducible repeat (first | refine blk_drewN ?_ _ | refine blk_drew ?_ | refine blk_alloc ?_ _)); refine blk_put (cs := #[.slice none 0 0, .slice none 0 0]) ?_ 0 _ rfl; (with_reducible repeat (first | refine blk_drewN ?_ _ | refine blk_drew ?_ | refine blk_alloc ?_ _)); exact BK557.out) hb); have n3_ := Aside0.mk (below_step (by repeat (first | (with_reducible first | exact HB.out | apply below_alloc | apply pw_below_drewN | apply below_drew1 | refine below_set ?_ GE557.out) | exact HB.out)) hb); clear HO552; clear HO555; clear BK557; clear HB; have HO552 := n0_; have HO555 := n1_; have BK557 := n2_; have HB := n3_; clear n0_ n1_ n2_ n3_; (try clear hb); (try clear hb2); (try clear hk); (try clear hi)))
    go_ret2
    exact ⟨by first | rfl | (simp [errW_none, errW_some] <;> rfl) | (simp [*, errW_none, errW_some] <;> rfl) | (simp [errW_none, errW_some]; exact ⟨rfl, rfl⟩), by repeat (first | (with_reducible first | exact HB.out | apply below_alloc | apply pw_below_drewN | apply below_drew1 | refine below_set ?_ GE557.out) | exact HB.out)⟩
  · replace c4 := Bool.eq_false_iff.mpr c4
    subst c4
    have H1 : (some ((⟨#[]⟩ : ByteArray), false)) = some (r1, r2) := by rw [if_neg (show ¬ (false = true) by decide)] at H; exact H
    clear H
    have H := H1
    clear H1
    simp only [Option.some.injEq, Prod.mk.injEq] at H
    obtain ⟨rfl, rfl⟩ := H
    go_enter Try.func24, Try.ntmps24
    go_wp2_with (first | ((with_reducible refine gate_callee (f := 46) rfl ?_); refine goesL_ (some 11) rfl rfl Try.func46 (by kernel_rfl) rfl #[.string a0, .int .i64 a1] rfl (by (try simp only [List.map_toArray, List.map_cons, List.map_nil]); first | done | rfl | (simp only [List.length_drop, List.length_take]; rfl)) ?_; (with_reducible refine (spec_l5Given.calls k a0 a1 t550 t553 false _ A3.out).mono ?_); rintro e w12 ⟨v551, v554, rfl, ho0, ho1, hb⟩; refine ⟨_, rfl, ?_⟩; have n0_ := Aside0.mk (Kd.R_lower ho0 (below_size (by repeat (first | (with_reducible first | exact HB.out | apply below_alloc | apply pw_below_drewN | apply below_drew1) | exact HB.out)))); have n1_ := Aside0.mk (Kd.R_lower ho1 (below_size (by repeat (first | (with_reducible first | exact HB.out | apply below_alloc | apply pw_below_drewN | apply below_drew1) | exact HB.out)))); have n2_ := Aside0.mk (below_step (by repeat (first | (with_reducible first | exact HB.out | apply below_alloc | apply pw_below_drewN | apply below_drew1) | exact HB.out)) hb); clear HB; have HO552 := n0_; have HO555 := n1_; have HB := n2_; clear n0_ n1_ n2_; (try clear hb); (try clear hb2); (try clear hk); (try clear hi); (try clear ho0); (try clear ho1)) | ((with_reducible refine gate_dst (N := 6) rfl ?_); refine box_event ?hg (N := 6) ?hd (cs := #[.slice none 0 0, .slice none 0 0]) (t := 55) ?hr ?_; (case hd => rfl); (case hg => rfl); (case hr => first | (go_simp; done) | (go_simp; rfl)); intro gb557 hg w13 hbox hb; have n0_ := Aside0.mk (Kd.R_below (by (with_reducible repeat (first | apply Kd.R_alloc | apply Kd.R_drewN | apply Kd.R_drew)); exact HO552.out) hb); have n1_ := Aside0.mk (Kd.R_below (by (with_reducible repeat (first | apply Kd.R_alloc | apply Kd.R_drewN | apply Kd.R_drew)); exact HO555.out) hb); have n2_ := Aside0.mk (below_step (by repeat (first | (with_reducible first | exact HB.out | apply below_alloc | apply pw_below_drewN | apply below_drew1) | exact HB.out)) hb); have n3_ := Aside0.mk (hbox); have n4_ := Aside0.mk ((by rw [hg]; exact (below_size (by repeat (first | (with_reducible first | exact HB.out | apply below_alloc | apply pw_below_drewN | apply below_drew1) | exact HB.out))) : w.heap.size ≤ gb557)); have n5_ := Aside0.mk ((by rw [hg]; exact (below_size (by repeat (first | (with_reducible first | exact HB.out | apply below_alloc | apply pw_below_drewN | apply below_drew1) | exact HB.out))) : w.heap.size ≤ gb557)); clear HO552; clear HO555; clear HB; have HO552 := n0_; have HO555 := n1_; have HB := n2_; have BK557 := n3_; have GW557 := n4_; have GE557 := n5_; clear n0_ n1_ n2_ n3_ n4_ n5_; clear hb hbox hg; obtain ⟨Ao14, co14, eo14⟩ := Kd.R_slice HO552.out; subst eo14; have hcz15_0 : w13.cell? ⟨gb557, 0, none⟩ = some (.slice none 0 0) := (blk_cell BK557.out 0).trans rfl; have hcz15_1 : w13.cell? ⟨gb557, 1, none⟩ = some (.slice none 0 0) := (blk_cell BK557.out 1).trans rfl; have hfz15_0 := blk_frozen BK557.out 0; have hfz15_1 := blk_frozen BK557.out 1; obtain ⟨Ao16, co16, eo16⟩ := Kd.R_slice HO555.out; subst eo16))
    go_ret2
    exact ⟨by first | rfl | (simp [errW_none, errW_some] <;> rfl) | (simp [*, errW_none, errW_some] <;> rfl) | (simp [errW_none, errW_some]; exact ⟨rfl, rfl⟩), by repeat (first | (with_reducible first | exact HB.out | apply below_alloc | apply pw_below_drewN | apply below_drew1 | refine below_set ?_ GE557.out) | exact HB.out)⟩

end Go.Proofs.Ytidfckekbaedpaa.P

-- spec.l6In, spec.l5Given.
namespace Go.Proofs.Ytidfckekbaedpaa.P
open Go.RowKit Go.Proofs.YtidfckekbaedpaaW.PrintWords Go.Proofs.YtidfckekbaedpaaW.PrintLast Go.Proofs.YtidfckekbaedpaaW.PrintMore
set_option linter.unusedVariables false
set_option linter.unusedSimpArgs false

theorem l6in_f (a b c : Int) : spec_l6In.f a b c = some (decide (b ≤ a ∧ a ≤ c)) := by
  unfold spec_l6In.f
  by_cases h : a ≥ b
  · rw [if_pos h]; congr 1; apply decide_eq_decide.2; omega
  · rw [if_neg h]; congr 1; symm; rw [decide_eq_false_iff_not]; omega
theorem given_some {s : ByteArray} (hs : s.size ≤ 70368744177664) (n : Int) {a b : List Bool} (h : parse (chrs s) = some (a, b)) : Ev (fun k => spec_l5Given.f k s n) (a, b, decide (0 ≤ n ∧ n ≤ 1000)) := by
  refine Ev.congr (fun k => rfl) (Ev.bind (read_f s hs) ?_)
  unfold parsed
  rw [h]
  simp only [if_true, l6in_f, Option.bind_some]
  exact Ev.now _
theorem given_none {s : ByteArray} (hs : s.size ≤ 70368744177664) (n : Int) (h : parse (chrs s) = none) : ∃ a b, Ev (fun k => spec_l5Given.f k s n) (a, b, false) := by
  have he : parsed s [] [false] = ([], [false], false) := by unfold parsed; rw [h]
  have := read_f s hs
  rw [he] at this
  refine ⟨[], [false], Ev.congr (fun k => rfl) (Ev.bind this ?_)⟩
  simp only [Bool.false_eq_true, if_false]
  exact Ev.now _

end Go.Proofs.Ytidfckekbaedpaa.P

-- spec.l1Has asks for the place.
namespace Go.Proofs.Ytidfckekbaedpaa.P
open Go.RowKit Go.Proofs.YtidfckekbaedpaaW.PrintWords Go.Proofs.YtidfckekbaedpaaW.PrintLast Go.Proofs.YtidfckekbaedpaaW.PrintMore
set_option linter.unusedVariables false
set_option linter.unusedSimpArgs false

theorem shas_f (t r : List Bool) (hr : r ≠ []) (hl : t.length + r.length ≤ 70368744177664) (n : Nat) (hn : n ≤ 70368744177664) : spec_l1Has.f t r n = some (hasB t r n) := by
  have hpos := List.length_pos_iff.2 hr
  unfold spec_l1Has.f
  by_cases h : n < t.length
  · rw [if_pos (by omega), if_pos (by omega), rdOf_nat, hasB_tail h]
  · have hm := Nat.mod_lt (n - t.length) hpos
    have e : Int.tmod (wrap64 ((n : Int) - (t.length : Int))) (r.length : Int) = (((n - t.length) % r.length : Nat) : Int) := by
      rw [w64 (by omega) (by omega), show (n : Int) - (t.length : Int) = ((n - t.length : Nat) : Int) by omega, Int.tmod_eq_emod_of_nonneg (by omega)]; rfl
    rw [if_neg (by omega), if_neg (by omega), e, if_pos (by omega), if_pos (by omega), rdOf_nat, hasB_ring' (by omega)]

end Go.Proofs.Ytidfckekbaedpaa.P

-- spec.l5Down writes a rest.
namespace Go.Proofs.Ytidfckekbaedpaa.P
open Go.RowKit Go.Proofs.YtidfckekbaedpaaW.PrintWords Go.Proofs.YtidfckekbaedpaaW.PrintLast Go.Proofs.YtidfckekbaedpaaW.PrintMore
set_option linter.unusedVariables false
set_option linter.unusedSimpArgs false

theorem down_l0 (a b : List Bool) (hb : b ≠ []) (hl : a.length + b.length ≤ 1000000) (n : Nat) (hn : n ≤ 1000000) : ∀ (d x : Nat), x ≤ (a.length - n) + b.length → (a.length - n) + b.length - x = d →
    Ev (fun k => spec_l5Down.l0 k n (mkT (shf (hasB a b) n) x) ((a.length - n : Nat) : Int) x a b) (textOf (cn (shf (hasB a b) n)).1 (cn (shf (hasB a b) n)).2) := by
  have hpos := List.length_pos_iff.2 hb
  have hper := shf_per (hasB_per a b) n
  have hw : wrap64 (((a.length - n : Nat) : Int) + (b.length : Int)) = (((a.length - n) + b.length : Nat) : Int) := by rw [w64 (by omega) (by omega)]; omega
  intro d
  induction d with
  | zero =>
    intro x h1 h2
    have e : x = (a.length - n) + b.length := by omega
    subst e
    have hlr := mkR_length (shf (hasB a b) n) (a.length - n) b.length
    have hlt := mkT_length (shf (hasB a b) n) (a.length - n)
    have h3 := less_cn (mkT (shf (hasB a b) n) (a.length - n)) (mkR (shf (hasB a b) n) (a.length - n) b.length) (mkR_ne _ hpos) (by omega)
    rw [mk_has hpos hper] at h3
    have hs := cn_spec hpos hper
    have h4 := write_f (cn (shf (hasB a b) n)).1 (cn (shf (hasB a b) n)).2 (by omega) (by omega)
    refine Ev.step (f := fun k => (spec_l1Less.f k (mkT (shf (hasB a b) n) (a.length - n)) (mkR (shf (hasB a b) n) (a.length - n) b.length)).bind fun bt320 => ((spec_l1Write.f k bt320.1 bt320.2).bind fun t326 => (some t326))) (fun k => ?_) (Ev.bind h3 (Ev.bind h4 (Ev.now _)))
    simp only [spec_l5Down.l0]
    rw [hw, if_neg (by omega), if_pos (by omega), if_pos (by rw [mkT_length]; omega)]
    simp only [Int.toNat_natCast]
    rw [mkT_take, mkT_drop]
  | succ d ih =>
    intro x h1 h2
    have hx : wrap64 ((x : Int) + 1) = ((x + 1 : Nat) : Int) := by rw [w64 (by omega) (by omega)]; omega
    have hxn : wrap64 ((x : Int) + (n : Int)) = ((x + n : Nat) : Int) := by rw [w64 (by omega) (by omega)]; omega
    refine Ev.step (fun k => ?_) (ih (x + 1) (by omega) (by omega))
    simp only [spec_l5Down.l0]
    rw [hw, if_pos (by omega), hxn, shas_f a b hb (by omega) _ (by omega)]
    simp only [Option.bind_some]
    rw [if_pos (by rw [mkT_length]; omega), hx, mkT_succ]; rfl
theorem down_f (a b : List Bool) (hb : b ≠ []) (hl : a.length + b.length ≤ 1000000) (n : Nat) (hn : n ≤ 1000000) :
    Ev (fun k => spec_l5Down.f k a b n) (textOf (cn (shf (hasB a b) n)).1 (cn (shf (hasB a b) n)).2) := by
  have h := down_l0 a b hb hl n hn _ 0 (by omega) rfl
  refine Ev.congr (fun k => ?_) h
  unfold spec_l5Down.f
  have e : mx 0 (wrap64 ((a.length : Int) - (n : Int))) = ((a.length - n : Nat) : Int) := by
    rw [w64 (by omega) (by omega)]; unfold mx; split <;> omega
  rw [e]; rfl

end Go.Proofs.Ytidfckekbaedpaa.P

-- spec.l91Number draws a number from 0 to n, seldom another one.
namespace Go.Proofs.Ytidfckekbaedpaa.P
open Go.RowKit Go.Proofs.YtidfckekbaedpaaW.PrintWords Go.Proofs.YtidfckekbaedpaaW.PrintLast Go.Proofs.YtidfckekbaedpaaW.PrintMore
set_option linter.unusedVariables false
set_option linter.unusedSimpArgs false

theorem num91_f {b : List Int} (h : Code b) (p n : Nat) (hp : p ≤ 900000) (hn : n ≤ 100000) : ∃ (v : Int) (q : Nat), -1 ≤ v ∧ v ≤ n + 1 ∧ q ≤ p + 2 ∧ Ev (fun k => spec_l91Number.f k b p n) (v, (q : Int)) := by
  obtain ⟨v1, hv1, e1⟩ := pick_f h p 16 (by omega) (by omega) (by omega)
  by_cases h0 : v1 = 0
  · obtain ⟨v2, hv2, e2⟩ := pick_f h (p + 1) 3 (by omega) (by omega) (by omega)
    have e : wrap64 ((n : Int) + 1) = ((n + 1 : Nat) : Int) := wsucc (by omega)
    refine ⟨rd [(-1), (n : Int), ((n + 1 : Nat) : Int)] v2, p + 2, ?_, ?_, by omega, Ev.congr (fun k => rfl) (Ev.bind e1 ?_)⟩
    · match v2, hv2 with
      | 0, _ => simp [rd] <;> omega
      | 1, _ => simp [rd] <;> omega
      | 2, _ => simp [rd] <;> omega
    · match v2, hv2 with
      | 0, _ => simp [rd] <;> omega
      | 1, _ => simp [rd] <;> omega
      | 2, _ => simp [rd] <;> omega
    · subst h0
      simp only [Int.natCast_zero, if_true, Option.bind_some, e]
      refine Ev.bind e2 ?_
      have hl : ((v2 : Int) < (([(-1), (n : Int), ((n + 1 : Nat) : Int)] : List Int).length : Int)) := by simp; omega
      simp only [if_pos (show (0 : Int) ≤ (v2 : Int) by omega), if_pos hl]
      exact Ev.now _
  · have e : wrap64 ((mn (n : Int) 30) + 1) = ((min n 30 + 1 : Nat) : Int) := by
      have : mn (n : Int) 30 = ((min n 30 : Nat) : Int) := by unfold mn; split <;> omega
      rw [this, wsucc (by omega)]
    obtain ⟨v2, hv2, e2⟩ := pick_f h (p + 1) (min n 30 + 1) (by omega) (by omega) (by omega)
    refine ⟨(v2 : Int), p + 2, by omega, by omega, by omega, Ev.congr (fun k => rfl) (Ev.bind e1 ?_)⟩
    simp only [if_neg (show ¬ ((v1 : Int) = 0) by omega), e]
    exact Ev.bind e2 (Ev.now _)

end Go.Proofs.Ytidfckekbaedpaa.P

-- impl.set.rest and RestSame.
namespace Go.Proofs.Ytidfckekbaedpaa.P
open Go.RowKit Go.Proofs.YtidfckekbaedpaaW.PrintWords Go.Proofs.YtidfckekbaedpaaW.PrintLast Go.Proofs.YtidfckekbaedpaaW.PrintMore
set_option linter.unusedVariables false
set_option linter.unusedSimpArgs false

theorem irest_f (t r : List Bool) (hr : r ≠ []) (hl : t.length + r.length ≤ 70368744177664) (n : Nat) (hn : n ≤ 70368744177664) : impl_set_rest.f t r n = some ((restN t r n : Nat) : Int) := by
  have hpos := List.length_pos_iff.2 hr
  unfold impl_set_rest.f restN
  by_cases h : n < t.length
  · rw [if_pos (by omega), if_pos h]
  · have hm := Nat.mod_lt (n - t.length) hpos
    have e : Int.tmod (wrap64 ((n : Int) - (t.length : Int))) (r.length : Int) = (((n - t.length) % r.length : Nat) : Int) := by
      rw [w64 (by omega) (by omega), show (n : Int) - (t.length : Int) = ((n - t.length : Nat) : Int) by omega, Int.tmod_eq_emod_of_nonneg (by omega)]; rfl
    rw [if_neg (by omega), if_neg (by omega), e, w64 (by omega) (by omega), if_neg h]; rfl

end Go.Proofs.Ytidfckekbaedpaa.P

-- impl.RestSame compares the least numbers of the same rests.
namespace Go.Proofs.Ytidfckekbaedpaa.P
open Go.RowKit Go.Proofs.YtidfckekbaedpaaW.PrintWords Go.Proofs.YtidfckekbaedpaaW.PrintLast Go.Proofs.YtidfckekbaedpaaW.PrintMore
set_option linter.unusedVariables false
set_option linter.unusedSimpArgs false

theorem in_f (a b c : Int) : impl_in.f a b c = some (decide (b ≤ a ∧ a ≤ c)) := by
  unfold impl_in.f
  by_cases h : a ≥ b
  · rw [if_pos h]; congr 1; apply decide_eq_decide.2; omega
  · rw [if_neg h]; congr 1; symm; rw [decide_eq_false_iff_not]; omega
noncomputable def rsame (s : List UInt8) (i j : Int) : Bool := match parse s with | some (a, b) => decide (0 ≤ i ∧ i ≤ 1000) && decide (0 ≤ j ∧ j ≤ 1000) && decide (restN (cn (hasB a b)).1 (cn (hasB a b)).2 i.toNat = restN (cn (hasB a b)).1 (cn (hasB a b)).2 j.toNat) | none => false
theorem restSame_f (s : ByteArray) (hs : s.size ≤ 70368744177664) (i j : Int) : Ev (fun k => impl_RestSame.f k s i j) (rsame (chrs s) i j) := by
  refine Ev.congr (fun k => rfl) (Ev.bind (tidied_f s hs) ?_)
  unfold tdd rsame
  cases h : parse (chrs s) with
  | none => simp only [Bool.false_eq_true, if_false]; exact Ev.now _
  | some ab =>
    have hb := parse_some h
    have ht := cn_tidy (t := ab.1) hb.2.2
    have h1 := ht.tl
    have h2 := ht.rl
    simp only [if_true, in_f, Option.bind_some]
    by_cases hi : 0 ≤ i ∧ i ≤ 1000
    · by_cases hj : 0 ≤ j ∧ j ≤ 1000
      · obtain ⟨i, rfl⟩ := Int.eq_ofNat_of_zero_le hi.1
        obtain ⟨j, rfl⟩ := Int.eq_ofNat_of_zero_le hj.1
        simp only [hi, hj, decide_true, if_true, and_self, Bool.true_and]
        rw [irest_f _ _ ht.canon.1.1 (by omega) i (by omega), irest_f _ _ ht.canon.1.1 (by omega) j (by omega)]
        simp only [Option.bind_some, Int.toNat_natCast]
        have e : (((restN (cn (hasB ab.1 ab.2)).1 (cn (hasB ab.1 ab.2)).2 i : Nat) : Int) == ((restN (cn (hasB ab.1 ab.2)).1 (cn (hasB ab.1 ab.2)).2 j : Nat) : Int)) = decide (restN (cn (hasB ab.1 ab.2)).1 (cn (hasB ab.1 ab.2)).2 i = restN (cn (hasB ab.1 ab.2)).1 (cn (hasB ab.1 ab.2)).2 j) := by
          rw [Bool.eq_iff_iff, beq_iff_eq, decide_eq_true_iff]; omega
        rw [e]; exact Ev.now _
      · simp only [hi, hj, decide_true, decide_false, if_true, and_self, Bool.true_and, Bool.false_and, Bool.false_eq_true, if_false]; exact Ev.now _
    · simp only [hi, decide_false, Bool.false_and, Bool.false_eq_true, if_false]; exact Ev.now _

end Go.Proofs.Ytidfckekbaedpaa.P

-- impl.MakeDown: the set, k less.
namespace Go.Proofs.Ytidfckekbaedpaa.P
open Go.RowKit Go.Proofs.YtidfckekbaedpaaW.PrintWords Go.Proofs.YtidfckekbaedpaaW.PrintLast Go.Proofs.YtidfckekbaedpaaW.PrintMore
set_option linter.unusedVariables false
set_option linter.unusedSimpArgs false

/-- What impl.MakeDown answers. -/
noncomputable def dwn (s : List UInt8) (a : Int) : ByteArray × Bool := if (parse s).isSome && decide (0 ≤ a ∧ a ≤ 1000) then txt (cn (shf (setf s) a.toNat)) else (⟨#[]⟩, false)
noncomputable def impl_MakeDown.f (s : ByteArray) (a : Int) : Option (ByteArray × Bool) := if s.size ≤ 70368744177664 then some (dwn (chrs s) a) else none

theorem drawn0_below {w w1 : World} (h : Drawn0 w w1) : Below w.heap.size w w1 := by
  obtain ⟨q, rfl⟩ := h
  exact pw_below_drewN (Below.refl _ _) q
set_option maxHeartbeats 8000000 in
set_option maxRecDepth 100000 in
theorem down_q_calls (t r : List Bool) (hr : r ≠ []) (hl : t.length ≤ 60 ∧ r.length ≤ 60) (A0 : Option Addr) (c0 : Nat) (A1 : Option Addr) (c1 n k b : Nat) (hn : n ≤ 1000000) (hk : k ≤ 1000000) (W : World)
    (hC0 : Kd.C Kd.bool W A0 t.length t) (h0 : t.length ≤ c0) (hC1 : Kd.C Kd.bool W A1 r.length r) (h1 : r.length ≤ c1) (hb : W.cell? ⟨b, 0, none⟩ = some (.int .i64 (k : Int))) :
    Calls Try.prog 50 #[.agg #[.slice A0 t.length c0, .slice A1 r.length c1], .int .i64 n, .pointer (some ⟨b, 0, none⟩)] W fun e w' => e = .returned (.bool (shf (hasB t r) k n)) ∧ Below W.heap.size W w' := by
  have hs : IntKind.i64.wrap ((n : Int) + (k : Int)) = ((n + k : Nat) : Int) := by rw [IntKind.wrap_i64]; omega
  have HC := fun (o : Obj) => Aside0.mk (impl_set_has.calls A0 c0 t A1 c1 r ((n + k : Nat) : Int) (hasB t r (n + k)) (W.alloc o) (Kd.C_alloc hC0 o) h0 (Kd.C_alloc hC1 o) h1 (ihas_f t r hr (by omega) (n + k) (by omega)))
  have hb2 : ∀ o, (W.alloc o).cell? ⟨b, 0, none⟩ = some (.int .i64 (k : Int)) := fun o => Lib.cell?_alloc_some _ hb
  have hu := Try.underlying50
  clear hC0 hC1 h0 h1 hl hr hb
  go_enter Try.func50, Try.ntmps50
  go_wp2_with (go_at_call 42; refine (HC _).out.mono ?_; rintro e w' ⟨rfl, hb⟩)
  go_ret
  exact ⟨rfl, below_step (below_alloc (Below.refl _ _) _) hb⟩

set_option maxHeartbeats 8000000 in
set_option maxRecDepth 100000 in
theorem impl_MakeDown.calls (a0 : ByteArray) (a1 : Int) (r1 : ByteArray) (r2 : Bool) (w : World) (h : impl_MakeDown.f a0 a1 = some (r1, r2)) :
    Calls Try.prog 25 #[.string a0, .int .i64 a1] w fun e w' => e = .returned (.tuple #[.string r1, .bool r2]) ∧ Below w.heap.size w w' := by
  unfold impl_MakeDown.f at h
  split at h
  · rename_i hs
    simp only [Option.some.injEq] at h
    have hin := in_f a1 0 1000
    obtain ⟨bm, hbm⟩ : ∃ bm, decide (0 ≤ a1 ∧ a1 ≤ 1000) = bm := ⟨_, rfl⟩
    have eg : ∀ args w, (callFunc 50 args).run Try.prog w = .ok (.enter 50 args) w := enters_of Try.func50 (by kernel_rfl) rfl
    have hx : ∀ w1 : World, w1.cell? ⟨w.heap.size, 0, none⟩ = some (.int .i64 a1) → w.heap.size < w1.heap.size → Calls Try.prog 49 #[.string a0, .bool bm, .func (.func 50) #[] #[.pointer (some ⟨w.heap.size, 0, none⟩)]] w1 fun e w' => e = .returned (.tuple #[.string r1, .bool r2]) ∧ Below w1.heap.size w1 w' := by
      intro w1 hc hlt
      have := single_calls a0 hs (decide (0 ≤ a1 ∧ a1 ≤ 1000)) 50 #[.pointer (some ⟨w.heap.size, 0, none⟩)] (shf (setf (chrs a0)) a1.toNat) w1 eg
        (fun _ t r hp => by rw [setf_some hp]; exact (shf_per (hasB_per t r) _).mono (by omega))
        (fun hm t r hp W A0 c0 A1 c1 n hW hC0 h0 hC1 h1 hn => by
          have hb := parse_some hp
          have hm := of_decide_eq_true hm
          obtain ⟨k, rfl⟩ := Int.eq_ofNat_of_zero_le hm.1
          rw [setf_some hp, Int.toNat_natCast]
          exact down_q_calls t r hb.2.2 ⟨hb.1, hb.2.1⟩ A0 c0 A1 c1 n k w.heap.size (by omega) (by omega) W hC0 h0 hC1 h1 ((hW.cell (p := ⟨w.heap.size, 0, none⟩) hlt).trans hc))
      unfold dwn at h
      rw [h, hbm] at this
      exact this
    rw [hbm] at hin
    clear hbm
    have HX := Aside0.mk hx
    have HI := fun w => Aside0.mk (impl_in.calls a1 0 1000 _ w hin)
    clear hx h hs hin eg
    go_enter Try.func25, Try.ntmps25
    go_wp2_with (first
      | (go_at_call 44; refine (HI _).out.mono ?_; rintro e w1 ⟨rfl, hd⟩; have hb := drawn0_below hd; have c1 := (hb.cell (p := ⟨w.heap.size, 0, none⟩) (by simp)).trans (by simp : (w.alloc (.cells #[.int .i64 a1] _)).cell? ⟨w.heap.size, 0, none⟩ = some (.int .i64 a1)); have hl1 : w.heap.size < w1.heap.size := Nat.lt_of_lt_of_le (by simp) hb.size; have HB := Aside0.mk (below_step (below_alloc (Below.refl w.heap.size w) _) hb); clear hd hb)
      | (go_at_call 49; refine (HX.out _ c1 hl1).mono ?_; rintro e w2 ⟨rfl, hb2⟩))
    go_ret2
    exact ⟨rfl, below_step HB.out hb2⟩
  · cases h
end Go.Proofs.Ytidfckekbaedpaa.P

namespace Go.Proofs.Ytidfckekbaedpaa.P
open Go.RowKit Go.Proofs.YtidfckekbaedpaaW.PrintWords Go.Proofs.YtidfckekbaedpaaW.PrintLast Go.Proofs.YtidfckekbaedpaaW.PrintMore
attribute [local go_sem] max2_int min2_int max_two min_two max_three min_three max_four min_four   -- for this text's walks alone
set_option linter.unusedVariables false
set_option linter.unusedSimpArgs false

/-! ### impl_RestText: function 22 -/
noncomputable def impl_RestText.f (a0 : ByteArray) (a1 : Int) : Option (ByteArray × Bool) := (impl_MakeDown.f a0 a1).bind fun bt530 => (some (bt530.1, bt530.2))
set_option maxHeartbeats 8000000 in
set_option maxRecDepth 100000 in
theorem impl_RestText.calls (a0 : ByteArray) (a1 : Int) (r1 : ByteArray) (r2 : Bool) (w : World) (h : impl_RestText.f a0 a1 = some (r1, r2)) :
    Calls Try.prog 22 #[.string a0, .int .i64 a1] w fun e w' => e = .returned (.tuple #[.string r1, .bool r2]) ∧ Below w.heap.size w w' := by
  have HB := Aside0.mk (Below.refl w.heap.size w)
  have H : ((impl_MakeDown.f a0 a1).bind fun bt530 => (some (bt530.1, bt530.2))) = some (r1, r2) := h
  clear h
  replace H := Option.bind_eq_some_iff.mp H
  obtain ⟨⟨t530, t531⟩, A30, H⟩ := H
  replace H : (some (t530, t531)) = some (r1, r2) := H
  have A3 := Aside0.mk A30
  clear A30
  simp only [Option.some.injEq, Prod.mk.injEq] at H
  obtain ⟨rfl, rfl⟩ := H
  go_enter Try.func22, Try.ntmps22
  go_wp2_with (first | ((with_reducible refine gate_callee (f := 25) rfl ?_); refine goesL_ (some 8) rfl rfl Try.func25 (by kernel_rfl) rfl #[.string a0, .int .i64 a1] rfl (by (try simp only [List.map_toArray, List.map_cons, List.map_nil]); first | done | rfl | (simp only [List.length_drop, List.length_take]; rfl)) ?_; (with_reducible refine (impl_MakeDown.calls a0 a1 t530 t531 _ A3.out).mono ?_); rintro e w4 ⟨rfl, hb⟩; refine ⟨_, rfl, ?_⟩; have n0_ := Aside0.mk (below_step (by repeat (first | (with_reducible first | exact HB.out | apply below_alloc | apply pw_below_drewN | apply below_drew1) | exact HB.out)) hb); clear HB; have HB := n0_; clear n0_; (try clear hb); (try clear hb2); (try clear hk); (try clear hi)))
  go_ret2
  exact ⟨by first | rfl | (simp [errW_none, errW_some] <;> rfl) | (simp [*, errW_none, errW_some] <;> rfl) | (simp [errW_none, errW_some]; exact ⟨rfl, rfl⟩), by repeat (first | (with_reducible first | exact HB.out | apply below_alloc | apply pw_below_drewN | apply below_drew1) | exact HB.out)⟩

end Go.Proofs.Ytidfckekbaedpaa.P

namespace Go.Proofs.Ytidfckekbaedpaa.P
open Go.RowKit Go.Proofs.YtidfckekbaedpaaW.PrintWords Go.Proofs.YtidfckekbaedpaaW.PrintLast Go.Proofs.YtidfckekbaedpaaW.PrintMore
attribute [local go_sem] max2_int min2_int max_two min_two max_three min_three max_four min_four   -- for this text's walks alone
set_option linter.unusedVariables false
set_option linter.unusedSimpArgs false

/-! ### laws_FnRestSame: function 6 -/
noncomputable def laws_FnRestSame.j0 : Nat → ByteArray → Int → Int → Bool → Bool → Option (Bool)
  | 0, _, _, _, _, _ => none
  | k + 1, x3, x4, x5, x8, x38 => if x38 = true then (some x8) else ((impl_RestText.f x3 x4).bind fun bt537 => ((impl_RestText.f x3 x5).bind fun bt539 => ((impl_RestSame.f k x3 x5 x4).bind fun t541 => (if t541 = true then (if x4 = 1000 then (if bt537.2 = true then (if bt539.2 = true then (some (bt537.1.toList == bt539.1.toList)) else (some false)) else (some false)) else (if x5 = 1000 then (if bt537.2 = true then (if bt539.2 = true then (some (bt537.1.toList == bt539.1.toList)) else (some false)) else (some false)) else ((impl_RestSame.f k x3 (wrap64 (x4 + 1)) (wrap64 (x5 + 1))).bind fun t542 => (if t542 = true then (if bt537.2 = true then (if bt539.2 = true then (some (bt537.1.toList == bt539.1.toList)) else (some false)) else (some false)) else (some false))))) else (some false)))))
noncomputable def laws_FnRestSame.f (k : Nat) (l0 : List Int) : Option (Bool) := if (l0.length : Int) > 1048576 then (some true) else ((spec_DrawRestSame.f k l0).bind fun bt532 => ((impl_RestSame.f k bt532.1 bt532.2.1 bt532.2.2).bind fun t535 => ((spec_RestSame.f k bt532.1 bt532.2.1 bt532.2.2).bind fun t536 => (if ((t535 == t536) = true) then (laws_FnRestSame.j0 k bt532.1 bt532.2.1 bt532.2.2 (t535 == t536) (!t535)) else (laws_FnRestSame.j0 k bt532.1 bt532.2.1 bt532.2.2 (t535 == t536) true)))))
theorem laws_FnRestSame.mono_l : ∀ k, (∀ y0 y1 y2 y3 y4, LeO (laws_FnRestSame.j0 k y0 y1 y2 y3 y4) (laws_FnRestSame.j0 (k + 1) y0 y1 y2 y3 y4))
  | 0 => fun _ _ _ _ _ r h => by simp [laws_FnRestSame.j0] at h
  | k + 1 => by
    have ih0 := laws_FnRestSame.mono_l k
    · intro y0 y1 y2 y3 y4
      unfold laws_FnRestSame.j0
      repeat' first
      | (with_reducible exact ih0 _ _ _ _ _)
      | (with_reducible exact impl_RestSame.mono _ _ _ _)
      | (with_reducible exact spec_DrawRestSame.mono _ _)
      | (with_reducible exact spec_RestSame.mono _ _ _ _)
      | (with_reducible exact LeO.refl _)
      | (with_reducible exact LeO.none _)
      | (with_reducible refine LeO.ite ?_ ?_)
      | (with_reducible refine LeO.bind ?_ (fun _ => ?_))
      | exact ih0 _ _ _ _ _
      | exact impl_RestSame.mono _ _ _ _
      | exact spec_DrawRestSame.mono _ _
      | exact spec_RestSame.mono _ _ _ _
      | exact LeO.none _
      | refine LeO.ite ?_ ?_
      | refine LeO.bind ?_ (fun _ => ?_)
theorem laws_FnRestSame.mono : ∀ a0 k, LeO (laws_FnRestSame.f k a0) (laws_FnRestSame.f (k + 1) a0) := by
  intro a0 k
  have ih0 := laws_FnRestSame.mono_l k
  unfold laws_FnRestSame.f
  repeat' first
      | (with_reducible exact ih0 _ _ _ _ _)
      | (with_reducible exact impl_RestSame.mono _ _ _ _)
      | (with_reducible exact spec_DrawRestSame.mono _ _)
      | (with_reducible exact spec_RestSame.mono _ _ _ _)
      | (with_reducible exact LeO.refl _)
      | (with_reducible exact LeO.none _)
      | (with_reducible refine LeO.ite ?_ ?_)
      | (with_reducible refine LeO.bind ?_ (fun _ => ?_))
      | exact ih0 _ _ _ _ _
      | exact impl_RestSame.mono _ _ _ _
      | exact spec_DrawRestSame.mono _ _
      | exact spec_RestSame.mono _ _ _ _
      | exact LeO.none _
      | refine LeO.ite ?_ ?_
      | refine LeO.bind ?_ (fun _ => ?_)
set_option maxHeartbeats 8000000 in
set_option maxRecDepth 100000 in
theorem laws_FnRestSame.calls (k : Nat) (A0 : Option Addr) (c0 : Nat) (l0 : List Int) (r : Bool) (w : World) (hr0 : Kd.C (Kd.int .u8) w A0 l0.length l0) (hc0 : l0.length ≤ c0) (h : laws_FnRestSame.f k l0 = some r) :
    Calls Try.prog 6 #[.slice A0 l0.length c0] w fun e w' => e = .returned (.bool r) ∧ Below w.heap.size w w' := by
  have HR0 := Aside0.mk hr0
  have HC0 := Aside0.mk hc0
  clear hr0 hc0
  have HB := Aside0.mk (Below.refl w.heap.size w)
  have H : (if (l0.length : Int) > 1048576 then (some true) else ((spec_DrawRestSame.f k l0).bind fun bt532 => ((impl_RestSame.f k bt532.1 bt532.2.1 bt532.2.2).bind fun t535 => ((spec_RestSame.f k bt532.1 bt532.2.1 bt532.2.2).bind fun t536 => (if ((t535 == t536) = true) then (laws_FnRestSame.j0 k bt532.1 bt532.2.1 bt532.2.2 (t535 == t536) (!t535)) else (laws_FnRestSame.j0 k bt532.1 bt532.2.1 bt532.2.2 (t535 == t536) true)))))) = some r := h
  clear h
  by_cases c2 : (l0.length : Int) > 1048576
  · rw [if_pos c2] at H
    have c2b0 : decide (1048576 < (l0.length : Int)) = true := decide_eq_true c2
    have c2b1 : decide (1048576 < l0.length) = true := decide_eq_true (by omega)
    clear c2
    obtain rfl := Option.some.inj H
    go_enter Try.func6, Try.ntmps6
    go_wp2
    go_ret
    exact ⟨by first | rfl | (simp [errW_none, errW_some] <;> rfl) | (simp [*, errW_none, errW_some] <;> rfl) | (simp [errW_none, errW_some]; exact ⟨rfl, rfl⟩), by repeat (first | (with_reducible first | exact HB.out | apply below_alloc | apply pw_below_drewN | apply below_drew1) | exact HB.out)⟩
  · rw [if_neg c2] at H
    have c2b0 : decide (1048576 < (l0.length : Int)) = false := decide_eq_false c2
    have c2b1 : decide (1048576 < l0.length) = false := decide_eq_false (by omega)
    clear c2
    replace H := Option.bind_eq_some_iff.mp H
    obtain ⟨⟨t532, t533, t534⟩, A30, H⟩ := H
    replace H : ((impl_RestSame.f k t532 t533 t534).bind fun t535 => ((spec_RestSame.f k t532 t533 t534).bind fun t536 => (if ((t535 == t536) = true) then (laws_FnRestSame.j0 k t532 t533 t534 (t535 == t536) (!t535)) else (laws_FnRestSame.j0 k t532 t533 t534 (t535 == t536) true)))) = some r := H
    have A3 := Aside0.mk A30
    clear A30
    replace H := Option.bind_eq_some_iff.mp H
    obtain ⟨t535, A40, H⟩ := H
    replace H : ((spec_RestSame.f k t532 t533 t534).bind fun t536 => (if ((t535 == t536) = true) then (laws_FnRestSame.j0 k t532 t533 t534 (t535 == t536) (!t535)) else (laws_FnRestSame.j0 k t532 t533 t534 (t535 == t536) true))) = some r := H
    have A4 := Aside0.mk A40
    clear A40
    replace H := Option.bind_eq_some_iff.mp H
    obtain ⟨t536, A50, H⟩ := H
    replace H : (if ((t535 == t536) = true) then (laws_FnRestSame.j0 k t532 t533 t534 (t535 == t536) (!t535)) else (laws_FnRestSame.j0 k t532 t533 t534 (t535 == t536) true)) = some r := H
    have A5 := Aside0.mk A50
    clear A50
    have HC6 := Aside0.mk H
    clear H
    go_enter Try.func6, Try.ntmps6
    go_upto_region 7 with (first | ((with_reducible refine gate_callee (f := 20) rfl ?_); refine goesL_ (some 18) rfl rfl Try.func20 (by kernel_rfl) rfl #[.slice A0 l0.length c0] rfl (by (try simp only [List.map_toArray, List.map_cons, List.map_nil]); first | done | rfl | (simp only [List.length_drop, List.length_take]; rfl)) ?_; (with_reducible refine (spec_DrawRestSame.calls k _ _ l0 t532 t533 t534 _ ?side1 ?side2 A3.out).mono ?_); (case side1 => repeat (first | exact HR0.out | (with_reducible refine Kd.C_alloc ?_ _) | (with_reducible refine Kd.C_drewN ?_ _) | (with_reducible refine Kd.C_drew ?_))); (case side2 => exact HC0.out); rintro e w7 ⟨rfl, hb⟩; refine ⟨_, rfl, ?_⟩; have n0_ := Aside0.mk (below_step (by repeat (first | (with_reducible first | exact HB.out | apply below_alloc | apply pw_below_drewN | apply below_drew1) | exact HB.out)) hb); clear HB; have HB := n0_; clear n0_; (try clear hb); (try clear hb2); (try clear hk); (try clear hi)) | ((with_reducible refine gate_callee (f := 19) rfl ?_); refine goesL_ (some 25) rfl rfl Try.func19 (by kernel_rfl) rfl #[.string t532, .int .i64 t533, .int .i64 t534] rfl (by (try simp only [List.map_toArray, List.map_cons, List.map_nil]); first | done | rfl | (simp only [List.length_drop, List.length_take]; rfl)) ?_; (with_reducible refine (impl_RestSame.calls k t532 t533 t534 t535 _ A4.out).mono ?_); rintro e w8 ⟨rfl, hb⟩; refine ⟨_, rfl, ?_⟩; have n0_ := Aside0.mk (below_step (by repeat (first | (with_reducible first | exact HB.out | apply below_alloc | apply pw_below_drewN | apply below_drew1) | exact HB.out)) hb); clear HB; have HB := n0_; clear n0_; (try clear hb); (try clear hb2); (try clear hk); (try clear hi)) | ((with_reducible refine gate_callee (f := 21) rfl ?_); refine goesL_ (some 29) rfl rfl Try.func21 (by kernel_rfl) rfl #[.string t532, .int .i64 t533, .int .i64 t534] rfl (by (try simp only [List.map_toArray, List.map_cons, List.map_nil]); first | done | rfl | (simp only [List.length_drop, List.length_take]; rfl)) ?_; (with_reducible refine (spec_RestSame.calls k t532 t533 t534 t536 _ A5.out).mono ?_); rintro e w9 ⟨rfl, hb⟩; refine ⟨_, rfl, ?_⟩; have n0_ := Aside0.mk (below_step (by repeat (first | (with_reducible first | exact HB.out | apply below_alloc | apply pw_below_drewN | apply below_drew1) | exact HB.out)) hb); clear HB; have HB := n0_; clear n0_; (try clear hb); (try clear hb2); (try clear hk); (try clear hi)))
    (try simp only [Act.put, List.setIfInBounds_toArray, List.set_cons_zero, List.set_cons_succ])
    go_cut [8, 38] (fun v8 v38 wc => ∃ (kq : Nat) (x38_5 : Bool), v8 = .bool (t535 == t536) ∧ v38 = .bool x38_5 ∧ Aside0 (laws_FnRestSame.j0 kq t532 t533 t534 (t535 == t536) x38_5 = some r) ∧ Aside0 (kq ≤ k) ∧ Aside0 (Below w.heap.size w wc))
    case first =>
      have H := HC6.out
      clear HC6
      by_cases c10 : ((t535 == t536) = true)
      · rw [if_pos c10] at H
        have c10b0 : (t535 == t536) = true := c10
        (try (have c10b1 : decide (t535 = t536) = true := by simpa using c10))
        (try (have c10b2 : (t535 == t536) = true := by simpa using c10))
        clear c10
        (first | rw [c10b0] | (simp only [i64_w, i32_w]; rw [c10b0]) | skip)
        have H' := Aside0.mk H
        clear H
        go_wp2
        go_meet
        case rel => exact ⟨_, (!t535), (by first | rfl | (simp [*]; done)), (by first | rfl | (simp; done) | (simp [*]; done) | (simp [Int.tmod_eq_emod_of_nonneg]; done)), H', ⟨by first | omega | exact Nat.le_refl _⟩, ⟨by repeat (first | (with_reducible first | exact HB.out | apply below_alloc | apply pw_below_drewN | apply below_drew1) | exact HB.out)⟩⟩
      · rw [if_neg c10] at H
        have c10b0 : (t535 == t536) = false := by simpa using c10
        (try (have c10b1 : decide (t535 = t536) = false := by simpa using c10))
        (try (have c10b2 : (t535 == t536) = false := by simpa using c10))
        (try (have c10b3 : ¬ (t535 = t536) := by simpa using c10))
        clear c10
        (first | rw [c10b0] | (simp only [i64_w, i32_w]; rw [c10b0]) | skip)
        have H' := Aside0.mk H
        clear H
        go_wp2
        go_meet
        case rel => exact ⟨_, (true), (by first | rfl | (simp [*]; done)), (by first | rfl | (simp; done) | (simp [*]; done) | (simp [Int.tmod_eq_emod_of_nonneg]; done)), H', ⟨by first | omega | exact Nat.le_refl _⟩, ⟨by repeat (first | (with_reducible first | exact HB.out | apply below_alloc | apply pw_below_drewN | apply below_drew1) | exact HB.out)⟩⟩
    case rest =>
      clear HC6
      try clear c1
      try clear c2
      try clear c2b0
      try clear c2b1
      try clear p2
      try clear c6
      try clear c10
      try clear c10b0
      try clear c10b1
      try clear c10b2
      obtain ⟨kq, x38_5, rfl, rfl, HA, HJ5, HB⟩ := hcut
      cases kq with
      | zero => exact absurd HA.out (by simp [laws_FnRestSame.j0])
      | succ kj5 =>
        have H := HA.out
        clear HA
        simp only [laws_FnRestSame.j0] at H
        by_cases c11 : x38_5 = true
        · subst c11
          have H1 : (some (t535 == t536)) = some r := by rw [if_pos rfl] at H; exact H
          clear H
          have H := H1
          clear H1
          obtain rfl := Option.some.inj H
          go_wp2
          go_ret
          exact ⟨by first | rfl | (simp [errW_none, errW_some] <;> rfl) | (simp [*, errW_none, errW_some] <;> rfl) | (simp [errW_none, errW_some]; exact ⟨rfl, rfl⟩), by repeat (first | (with_reducible first | exact HB.out | apply below_alloc | apply pw_below_drewN | apply below_drew1) | exact HB.out)⟩
        · replace c11 := Bool.eq_false_iff.mpr c11
          subst c11
          have H1 : ((impl_RestText.f t532 t533).bind fun bt537 => ((impl_RestText.f t532 t534).bind fun bt539 => ((impl_RestSame.f kj5 t532 t534 t533).bind fun t541 => (if t541 = true then (if t533 = 1000 then (if bt537.2 = true then (if bt539.2 = true then (some (bt537.1.toList == bt539.1.toList)) else (some false)) else (some false)) else (if t534 = 1000 then (if bt537.2 = true then (if bt539.2 = true then (some (bt537.1.toList == bt539.1.toList)) else (some false)) else (some false)) else ((impl_RestSame.f kj5 t532 (wrap64 (t533 + 1)) (wrap64 (t534 + 1))).bind fun t542 => (if t542 = true then (if bt537.2 = true then (if bt539.2 = true then (some (bt537.1.toList == bt539.1.toList)) else (some false)) else (some false)) else (some false))))) else (some false))))) = some r := by rw [if_neg (show ¬ (false = true) by decide)] at H; exact H
          clear H
          have H := H1
          clear H1
          replace H := Option.bind_eq_some_iff.mp H
          obtain ⟨⟨t537, t538⟩, A120, H⟩ := H
          replace H : ((impl_RestText.f t532 t534).bind fun bt539 => ((impl_RestSame.f kj5 t532 t534 t533).bind fun t541 => (if t541 = true then (if t533 = 1000 then (if t538 = true then (if bt539.2 = true then (some (t537.toList == bt539.1.toList)) else (some false)) else (some false)) else (if t534 = 1000 then (if t538 = true then (if bt539.2 = true then (some (t537.toList == bt539.1.toList)) else (some false)) else (some false)) else ((impl_RestSame.f kj5 t532 (wrap64 (t533 + 1)) (wrap64 (t534 + 1))).bind fun t542 => (if t542 = true then (if t538 = true then (if bt539.2 = true then (some (t537.toList == bt539.1.toList)) else (some false)) else (some false)) else (some false))))) else (some false)))) = some r := H
          have A12 := Aside0.mk A120
          clear A120
          replace H := Option.bind_eq_some_iff.mp H
          obtain ⟨⟨t539, t540⟩, A130, H⟩ := H
          replace H : ((impl_RestSame.f kj5 t532 t534 t533).bind fun t541 => (if t541 = true then (if t533 = 1000 then (if t538 = true then (if t540 = true then (some (t537.toList == t539.toList)) else (some false)) else (some false)) else (if t534 = 1000 then (if t538 = true then (if t540 = true then (some (t537.toList == t539.toList)) else (some false)) else (some false)) else ((impl_RestSame.f kj5 t532 (wrap64 (t533 + 1)) (wrap64 (t534 + 1))).bind fun t542 => (if t542 = true then (if t538 = true then (if t540 = true then (some (t537.toList == t539.toList)) else (some false)) else (some false)) else (some false))))) else (some false))) = some r := H
          have A13 := Aside0.mk A130
          clear A130
          replace H := Option.bind_eq_some_iff.mp H
          obtain ⟨t541, A140, H⟩ := H
          replace H : (if t541 = true then (if t533 = 1000 then (if t538 = true then (if t540 = true then (some (t537.toList == t539.toList)) else (some false)) else (some false)) else (if t534 = 1000 then (if t538 = true then (if t540 = true then (some (t537.toList == t539.toList)) else (some false)) else (some false)) else ((impl_RestSame.f kj5 t532 (wrap64 (t533 + 1)) (wrap64 (t534 + 1))).bind fun t542 => (if t542 = true then (if t538 = true then (if t540 = true then (some (t537.toList == t539.toList)) else (some false)) else (some false)) else (some false))))) else (some false)) = some r := H
          have A14 := Aside0.mk A140
          clear A140
          by_cases c15 : t541 = true
          · subst c15
            have H1 : (if t533 = 1000 then (if t538 = true then (if t540 = true then (some (t537.toList == t539.toList)) else (some false)) else (some false)) else (if t534 = 1000 then (if t538 = true then (if t540 = true then (some (t537.toList == t539.toList)) else (some false)) else (some false)) else ((impl_RestSame.f kj5 t532 (wrap64 (t533 + 1)) (wrap64 (t534 + 1))).bind fun t542 => (if t542 = true then (if t538 = true then (if t540 = true then (some (t537.toList == t539.toList)) else (some false)) else (some false)) else (some false))))) = some r := by rw [if_pos rfl] at H; exact H
            clear H
            have H := H1
            clear H1
            by_cases c16 : t533 = 1000
            · rw [if_pos c16] at H
              have c16b0 : (t533 == 1000) = true := beq_iff_eq.mpr c16
              have c16b1 : (t533 != 1000) = false := bne_eq_false_iff_eq.mpr c16
              clear c16
              by_cases c17 : t538 = true
              · subst c17
                have H1 : (if t540 = true then (some (t537.toList == t539.toList)) else (some false)) = some r := by rw [if_pos rfl] at H; exact H
                clear H
                have H := H1
                clear H1
                by_cases c18 : t540 = true
                · subst c18
                  have H1 : (some (t537.toList == t539.toList)) = some r := by rw [if_pos rfl] at H; exact H
                  clear H
                  have H := H1
                  clear H1
                  obtain rfl := Option.some.inj H
                  go_wp2_with (first | ((with_reducible refine gate_callee (f := 22) rfl ?_); refine goesL_ (some 43) rfl rfl Try.func22 (by kernel_rfl) rfl #[.string t532, .int .i64 t533] rfl (by (try simp only [List.map_toArray, List.map_cons, List.map_nil]); first | done | rfl | (simp only [List.length_drop, List.length_take]; rfl)) ?_; (with_reducible refine (impl_RestText.calls t532 t533 t537 true _ A12.out).mono ?_); rintro e w19 ⟨rfl, hb⟩; refine ⟨_, rfl, ?_⟩; have n0_ := Aside0.mk (below_step (by repeat (first | (with_reducible first | exact HB.out | apply below_alloc | apply pw_below_drewN | apply below_drew1) | exact HB.out)) hb); clear HB; have HB := n0_; clear n0_; (try clear hb); (try clear hb2); (try clear hk); (try clear hi)) | ((with_reducible refine gate_callee (f := 22) rfl ?_); refine goesL_ (some 49) rfl rfl Try.func22 (by kernel_rfl) rfl #[.string t532, .int .i64 t534] rfl (by (try simp only [List.map_toArray, List.map_cons, List.map_nil]); first | done | rfl | (simp only [List.length_drop, List.length_take]; rfl)) ?_; (with_reducible refine (impl_RestText.calls t532 t534 t539 true _ A13.out).mono ?_); rintro e w20 ⟨rfl, hb⟩; refine ⟨_, rfl, ?_⟩; have n0_ := Aside0.mk (below_step (by repeat (first | (with_reducible first | exact HB.out | apply below_alloc | apply pw_below_drewN | apply below_drew1) | exact HB.out)) hb); clear HB; have HB := n0_; clear n0_; (try clear hb); (try clear hb2); (try clear hk); (try clear hi)) | ((with_reducible refine gate_callee (f := 19) rfl ?_); refine goesL_ (some 55) rfl rfl Try.func19 (by kernel_rfl) rfl #[.string t532, .int .i64 t534, .int .i64 t533] rfl (by (try simp only [List.map_toArray, List.map_cons, List.map_nil]); first | done | rfl | (simp only [List.length_drop, List.length_take]; rfl)) ?_; (with_reducible refine (impl_RestSame.calls kj5 t532 t534 t533 true _ A14.out).mono ?_); rintro e w21 ⟨rfl, hb⟩; refine ⟨_, rfl, ?_⟩; have n0_ := Aside0.mk (below_step (by repeat (first | (with_reducible first | exact HB.out | apply below_alloc | apply pw_below_drewN | apply below_drew1) | exact HB.out)) hb); clear HB; have HB := n0_; clear n0_; (try clear hb); (try clear hb2); (try clear hk); (try clear hi)))
                  go_ret
                  exact ⟨by first | rfl | (simp [errW_none, errW_some] <;> rfl) | (simp [*, errW_none, errW_some] <;> rfl) | (simp [errW_none, errW_some]; exact ⟨rfl, rfl⟩), by repeat (first | (with_reducible first | exact HB.out | apply below_alloc | apply pw_below_drewN | apply below_drew1) | exact HB.out)⟩
                · replace c18 := Bool.eq_false_iff.mpr c18
                  subst c18
                  have H1 : (some false) = some r := by rw [if_neg (show ¬ (false = true) by decide)] at H; exact H
                  clear H
                  have H := H1
                  clear H1
                  obtain rfl := Option.some.inj H
                  go_wp2_with (first | ((with_reducible refine gate_callee (f := 22) rfl ?_); refine goesL_ (some 43) rfl rfl Try.func22 (by kernel_rfl) rfl #[.string t532, .int .i64 t533] rfl (by (try simp only [List.map_toArray, List.map_cons, List.map_nil]); first | done | rfl | (simp only [List.length_drop, List.length_take]; rfl)) ?_; (with_reducible refine (impl_RestText.calls t532 t533 t537 true _ A12.out).mono ?_); rintro e w22 ⟨rfl, hb⟩; refine ⟨_, rfl, ?_⟩; have n0_ := Aside0.mk (below_step (by repeat (first | (with_reducible first | exact HB.out | apply below_alloc | apply pw_below_drewN | apply below_drew1) | exact HB.out)) hb); clear HB; have HB := n0_; clear n0_; (try clear hb); (try clear hb2); (try clear hk); (try clear hi)) | ((with_reducible refine gate_callee (f := 22) rfl ?_); refine goesL_ (some 49) rfl rfl Try.func22 (by kernel_rfl) rfl #[.string t532, .int .i64 t534] rfl (by (try simp only [List.map_toArray, List.map_cons, List.map_nil]); first | done | rfl | (simp only [List.length_drop, List.length_take]; rfl)) ?_; (with_reducible refine (impl_RestText.calls t532 t534 t539 false _ A13.out).mono ?_); rintro e w23 ⟨rfl, hb⟩; refine ⟨_, rfl, ?_⟩; have n0_ := Aside0.mk (below_step (by repeat (first | (with_reducible first | exact HB.out | apply below_alloc | apply pw_below_drewN | apply below_drew1) | exact HB.out)) hb); clear HB; have HB := n0_; clear n0_; (try clear hb); (try clear hb2); (try clear hk); (try clear hi)) | ((with_reducible refine gate_callee (f := 19) rfl ?_); refine goesL_ (some 55) rfl rfl Try.func19 (by kernel_rfl) rfl #[.string t532, .int .i64 t534, .int .i64 t533] rfl (by (try simp only [List.map_toArray, List.map_cons, List.map_nil]); first | done | rfl | (simp only [List.length_drop, List.length_take]; rfl)) ?_; (with_reducible refine (impl_RestSame.calls kj5 t532 t534 t533 true _ A14.out).mono ?_); rintro e w24 ⟨rfl, hb⟩; refine ⟨_, rfl, ?_⟩; have n0_ := Aside0.mk (below_step (by repeat (first | (with_reducible first | exact HB.out | apply below_alloc | apply pw_below_drewN | apply below_drew1) | exact HB.out)) hb); clear HB; have HB := n0_; clear n0_; (try clear hb); (try clear hb2); (try clear hk); (try clear hi)))
                  go_ret
                  exact ⟨by first | rfl | (simp [errW_none, errW_some] <;> rfl) | (simp [*, errW_none, errW_some] <;> rfl) | (simp [errW_none, errW_some]; exact ⟨rfl, rfl⟩), by repeat (first | (with_reducible first | exact HB.out | apply below_alloc | apply pw_below_drewN | apply below_drew1) | exact HB.out)⟩
              · replace c17 := Bool.eq_false_iff.mpr c17
                subst c17
                have H1 : (some false) = some r := by rw [if_neg (show ¬ (false = true) by decide)] at H; exact H
                clear H
                have H := H1
                clear H1
                obtain rfl := Option.some.inj H
                go_wp2_with (first | ((with_reducible refine gate_callee (f := 22) rfl ?_); refine goesL_ (some 43) rfl rfl Try.func22 (by kernel_rfl) rfl #[.string t532, .int .i64 t533] rfl (by (try simp only [List.map_toArray, List.map_cons, List.map_nil]); first | done | rfl | (simp only [List.length_drop, List.length_take]; rfl)) ?_; (with_reducible refine (impl_RestText.calls t532 t533 t537 false _ A12.out).mono ?_); rintro e w25 ⟨rfl, hb⟩; refine ⟨_, rfl, ?_⟩; have n0_ := Aside0.mk (below_step (by repeat (first | (with_reducible first | exact HB.out | apply below_alloc | apply pw_below_drewN | apply below_drew1) | exact HB.out)) hb); clear HB; have HB := n0_; clear n0_; (try clear hb); (try clear hb2); (try clear hk); (try clear hi)) | ((with_reducible refine gate_callee (f := 22) rfl ?_); refine goesL_ (some 49) rfl rfl Try.func22 (by kernel_rfl) rfl #[.string t532, .int .i64 t534] rfl (by (try simp only [List.map_toArray, List.map_cons, List.map_nil]); first | done | rfl | (simp only [List.length_drop, List.length_take]; rfl)) ?_; (with_reducible refine (impl_RestText.calls t532 t534 t539 t540 _ A13.out).mono ?_); rintro e w26 ⟨rfl, hb⟩; refine ⟨_, rfl, ?_⟩; have n0_ := Aside0.mk (below_step (by repeat (first | (with_reducible first | exact HB.out | apply below_alloc | apply pw_below_drewN | apply below_drew1) | exact HB.out)) hb); clear HB; have HB := n0_; clear n0_; (try clear hb); (try clear hb2); (try clear hk); (try clear hi)) | ((with_reducible refine gate_callee (f := 19) rfl ?_); refine goesL_ (some 55) rfl rfl Try.func19 (by kernel_rfl) rfl #[.string t532, .int .i64 t534, .int .i64 t533] rfl (by (try simp only [List.map_toArray, List.map_cons, List.map_nil]); first | done | rfl | (simp only [List.length_drop, List.length_take]; rfl)) ?_; (with_reducible refine (impl_RestSame.calls kj5 t532 t534 t533 true _ A14.out).mono ?_); rintro e w27 ⟨rfl, hb⟩; refine ⟨_, rfl, ?_⟩; have n0_ := Aside0.mk (below_step (by repeat (first | (with_reducible first | exact HB.out | apply below_alloc | apply pw_below_drewN | apply below_drew1) | exact HB.out)) hb); clear HB; have HB := n0_; clear n0_; (try clear hb); (try clear hb2); (try clear hk); (try clear hi)))
                go_ret
                exact ⟨by first | rfl | (simp [errW_none, errW_some] <;> rfl) | (simp [*, errW_none, errW_some] <;> rfl) | (simp [errW_none, errW_some]; exact ⟨rfl, rfl⟩), by repeat (first | (with_reducible first | exact HB.out | apply below_alloc | apply pw_below_drewN | apply below_drew1) | exact HB.out)⟩
            · rw [if_neg c16] at H
              have c16b0 : (t533 == 1000) = false := beq_eq_false_iff_ne.mpr c16
              have c16b1 : (t533 != 1000) = true := bne_iff_ne.mpr c16
              by_cases c28 : t534 = 1000
              · rw [if_pos c28] at H
                have c28b0 : (t534 == 1000) = true := beq_iff_eq.mpr c28
                have c28b1 : (t534 != 1000) = false := bne_eq_false_iff_eq.mpr c28
                clear c28
                by_cases c29 : t538 = true
                · subst c29
                  have H1 : (if t540 = true then (some (t537.toList == t539.toList)) else (some false)) = some r := by rw [if_pos rfl] at H; exact H
                  clear H
                  have H := H1
                  clear H1
                  by_cases c30 : t540 = true
                  · subst c30
                    have H1 : (some (t537.toList == t539.toList)) = some r := by rw [if_pos rfl] at H; exact H
                    clear H
                    have H := H1
                    clear H1
                    obtain rfl := Option.some.inj H
                    go_wp2_with (first | ((with_reducible refine gate_callee (f := 22) rfl ?_); refine goesL_ (some 43) rfl rfl Try.func22 (by kernel_rfl) rfl #[.string t532, .int .i64 t533] rfl (by (try simp only [List.map_toArray, List.map_cons, List.map_nil]); first | done | rfl | (simp only [List.length_drop, List.length_take]; rfl)) ?_; (with_reducible refine (impl_RestText.calls t532 t533 t537 true _ A12.out).mono ?_); rintro e w31 ⟨rfl, hb⟩; refine ⟨_, rfl, ?_⟩; have n0_ := Aside0.mk (below_step (by repeat (first | (with_reducible first | exact HB.out | apply below_alloc | apply pw_below_drewN | apply below_drew1) | exact HB.out)) hb); clear HB; have HB := n0_; clear n0_; (try clear hb); (try clear hb2); (try clear hk); (try clear hi)) | ((with_reducible refine gate_callee (f := 22) rfl ?_); refine goesL_ (some 49) rfl rfl Try.func22 (by kernel_rfl) rfl #[.string t532, .int .i64 t534] rfl (by (try simp only [List.map_toArray, List.map_cons, List.map_nil]); first | done | rfl | (simp only [List.length_drop, List.length_take]; rfl)) ?_; (with_reducible refine (impl_RestText.calls t532 t534 t539 true _ A13.out).mono ?_); rintro e w32 ⟨rfl, hb⟩; refine ⟨_, rfl, ?_⟩; have n0_ := Aside0.mk (below_step (by repeat (first | (with_reducible first | exact HB.out | apply below_alloc | apply pw_below_drewN | apply below_drew1) | exact HB.out)) hb); clear HB; have HB := n0_; clear n0_; (try clear hb); (try clear hb2); (try clear hk); (try clear hi)) | ((with_reducible refine gate_callee (f := 19) rfl ?_); refine goesL_ (some 55) rfl rfl Try.func19 (by kernel_rfl) rfl #[.string t532, .int .i64 t534, .int .i64 t533] rfl (by (try simp only [List.map_toArray, List.map_cons, List.map_nil]); first | done | rfl | (simp only [List.length_drop, List.length_take]; rfl)) ?_; (with_reducible refine (impl_RestSame.calls kj5 t532 t534 t533 true _ A14.out).mono ?_); rintro e w33 ⟨rfl, hb⟩; refine ⟨_, rfl, ?_⟩; have n0_ := Aside0.mk (below_step (by repeat (first | (with_reducible first | exact HB.out | apply below_alloc | apply pw_below_drewN | apply below_drew1) | exact HB.out)) hb); clear HB; have HB := n0_; clear n0_; (try clear hb); (try clear hb2); (try clear hk); (try clear hi)))
                    go_ret
                    exact ⟨by first | rfl | (simp [errW_none, errW_some] <;> rfl) | (simp [*, errW_none, errW_some] <;> rfl) | (simp [errW_none, errW_some]; exact ⟨rfl, rfl⟩), by repeat (first | (with_reducible first | exact HB.out | apply below_alloc | apply pw_below_drewN | apply below_drew1) | exact HB.out)⟩
                  · replace c30 := Bool.eq_false_iff.mpr c30
                    subst c30
                    have H1 : (some false) = some r := by rw [if_neg (show ¬ (false = true) by decide)] at H; exact H
                    clear H
                    have H := H1
                    clear H1
                    obtain rfl := Option.some.inj H
                    go_wp2_with (first | ((with_reducible refine gate_callee (f := 22) rfl ?_); refine goesL_ (some 43) rfl rfl Try.func22 (by kernel_rfl) rfl #[.string t532, .int .i64 t533] rfl (by (try simp only [List.map_toArray, List.map_cons, List.map_nil]); first | done | rfl | (simp only [List.length_drop, List.length_take]; rfl)) ?_; (with_reducible refine (impl_RestText.calls t532 t533 t537 true _ A12.out).mono ?_); rintro e w34 ⟨rfl, hb⟩; refine ⟨_, rfl, ?_⟩; have n0_ := Aside0.mk (below_step (by repeat (first | (with_reducible first | exact HB.out | apply below_alloc | apply pw_below_drewN | apply below_drew1) | exact HB.out)) hb); clear HB; have HB := n0_; clear n0_; (try clear hb); (try clear hb2); (try clear hk); (try clear hi)) | ((with_reducible refine gate_callee (f := 22) rfl ?_); refine goesL_ (some 49) rfl rfl Try.func22 (by kernel_rfl) rfl #[.string t532, .int .i64 t534] rfl (by (try simp only [List.map_toArray, List.map_cons, List.map_nil]); first | done | rfl | (simp only [List.length_drop, List.length_take]; rfl)) ?_; (with_reducible refine (impl_RestText.calls t532 t534 t539 false _ A13.out).mono ?_); rintro e w35 ⟨rfl, hb⟩; refine ⟨_, rfl, ?_⟩; have n0_ := Aside0.mk (below_step (by repeat (first | (with_reducible first | exact HB.out | apply below_alloc | apply pw_below_drewN | apply below_drew1) | exact HB.out)) hb); clear HB; have HB := n0_; clear n0_; (try clear hb); (try clear hb2); (try clear hk); (try clear hi)) | ((with_reducible refine gate_callee (f := 19) rfl ?_); refine goesL_ (some 55) rfl rfl Try.func19 (by kernel_rfl) rfl #[.string t532, .int .i64 t534, .int .i64 t533] rfl (by (try simp only [List.map_toArray, List.map_cons, List.map_nil]); first | done | rfl | (simp only [List.length_drop, List.length_take]; rfl)) ?_; (with_reducible refine (impl_RestSame.calls kj5 t532 t534 t533 true _ A14.out).mono ?_); rintro e w36 ⟨rfl, hb⟩; refine ⟨_, rfl, ?_⟩; have n0_ := Aside0.mk (below_step (by repeat (first | (with_reducible first | exact HB.out | apply below_alloc | apply pw_below_drewN | apply below_drew1) | exact HB.out)) hb); clear HB; have HB := n0_; clear n0_; (try clear hb); (try clear hb2); (try clear hk); (try clear hi)))
                    go_ret
                    exact ⟨by first | rfl | (simp [errW_none, errW_some] <;> rfl) | (simp [*, errW_none, errW_some] <;> rfl) | (simp [errW_none, errW_some]; exact ⟨rfl, rfl⟩), by repeat (first | (with_reducible first | exact HB.out | apply below_alloc | apply pw_below_drewN | apply below_drew1) | exact HB.out)⟩
                · replace c29 := Bool.eq_false_iff.mpr c29
                  subst c29
                  have H1 : (some false) = some r := by rw [if_neg (show ¬ (false = true) by decide)] at H; exact H
                  clear H
                  have H := H1
                  clear H1
                  obtain rfl := Option.some.inj H
                  go_wp2_with (first | ((with_reducible refine gate_callee (f := 22) rfl ?_); refine goesL_ (some 43) rfl rfl Try.func22 (by kernel_rfl) rfl #[.string t532, .int .i64 t533] rfl (by (try simp only [List.map_toArray, List.map_cons, List.map_nil]); first | done | rfl | (simp only [List.length_drop, List.length_take]; rfl)) ?_; (with_reducible refine (impl_RestText.calls t532 t533 t537 false _ A12.out).mono ?_); rintro e w37 ⟨rfl, hb⟩; refine ⟨_, rfl, ?_⟩; have n0_ := Aside0.mk (below_step (by repeat (first | (with_reducible first | exact HB.out | apply below_alloc | apply pw_below_drewN | apply below_drew1) | exact HB.out)) hb); clear HB; have HB := n0_; clear n0_; (try clear hb); (try clear hb2); (try clear hk); (try clear hi)) | ((with_reducible refine gate_callee (f := 22) rfl ?_); refine goesL_ (some 49) rfl rfl Try.func22 (by kernel_rfl) rfl #[.string t532, .int .i64 t534] rfl (by (try simp only [List.map_toArray, List.map_cons, List.map_nil]); first | done | rfl | (simp only [List.length_drop, List.length_take]; rfl)) ?_; (with_reducible refine (impl_RestText.calls t532 t534 t539 t540 _ A13.out).mono ?_); rintro e w38 ⟨rfl, hb⟩; refine ⟨_, rfl, ?_⟩; have n0_ := Aside0.mk (below_step (by repeat (first | (with_reducible first | exact HB.out | apply below_alloc | apply pw_below_drewN | apply below_drew1) | exact HB.out)) hb); clear HB; have HB := n0_; clear n0_; (try clear hb); (try clear hb2); (try clear hk); (try clear hi)) | ((with_reducible refine gate_callee (f := 19) rfl ?_); refine goesL_ (some 55) rfl rfl Try.func19 (by kernel_rfl) rfl #[.string t532, .int .i64 t534, .int .i64 t533] rfl (by (try simp only [List.map_toArray, List.map_cons, List.map_nil]); first | done | rfl | (simp only [List.length_drop, List.length_take]; rfl)) ?_; (with_reducible refine (impl_RestSame.calls kj5 t532 t534 t533 true _ A14.out).mono ?_); rintro e w39 ⟨rfl, hb⟩; refine ⟨_, rfl, ?_⟩; have n0_ := Aside0.mk (below_step (by repeat (first | (with_reducible first | exact HB.out | apply below_alloc | apply pw_below_drewN | apply below_drew1) | exact HB.out)) hb); clear HB; have HB := n0_; clear n0_; (try clear hb); (try clear hb2); (try clear hk); (try clear hi)))
                  go_ret
                  exact ⟨by first | rfl | (simp [errW_none, errW_some] <;> rfl) | (simp [*, errW_none, errW_some] <;> rfl) | (simp [errW_none, errW_some]; exact ⟨rfl, rfl⟩), by repeat (first | (with_reducible first | exact HB.out | apply below_alloc | apply pw_below_drewN | apply below_drew1) | exact HB.out)⟩
              · rw [if_neg c28] at H
                have c28b0 : (t534 == 1000) = false := beq_eq_false_iff_ne.mpr c28
                have c28b1 : (t534 != 1000) = true := bne_iff_ne.mpr c28
                replace H := Option.bind_eq_some_iff.mp H
                obtain ⟨t542, A400, H⟩ := H
                replace H : (if t542 = true then (if t538 = true then (if t540 = true then (some (t537.toList == t539.toList)) else (some false)) else (some false)) else (some false)) = some r := H
                have A40 := Aside0.mk A400
                clear A400
                by_cases c41 : t542 = true
                · subst c41
                  have H1 : (if t538 = true then (if t540 = true then (some (t537.toList == t539.toList)) else (some false)) else (some false)) = some r := by rw [if_pos rfl] at H; exact H
                  clear H
                  have H := H1
                  clear H1
                  by_cases c42 : t538 = true
                  · subst c42
                    have H1 : (if t540 = true then (some (t537.toList == t539.toList)) else (some false)) = some r := by rw [if_pos rfl] at H; exact H
                    clear H
                    have H := H1
                    clear H1
                    by_cases c43 : t540 = true
                    · subst c43
                      have H1 : (some (t537.toList == t539.toList)) = some r := by rw [if_pos rfl] at H; exact H
                      clear H
                      have H := H1
                      clear H1
                      obtain rfl := Option.some.inj H
                      go_wp2_with (first | ((with_reducible refine gate_callee (f := 22) rfl ?_); refine goesL_ (some 43) rfl rfl Try.func22 (by kernel_rfl) rfl #[.string t532, .int .i64 t533] rfl (by (try simp only [List.map_toArray, List.map_cons, List.map_nil]); first | done | rfl | (simp only [List.length_drop, List.length_take]; rfl)) ?_; (with_reducible refine (impl_RestText.calls t532 t533 t537 true _ A12.out).mono ?_); rintro e w44 ⟨rfl, hb⟩; refine ⟨_, rfl, ?_⟩; have n0_ := Aside0.mk (below_step (by repeat (first | (with_reducible first | exact HB.out | apply below_alloc | apply pw_below_drewN | apply below_drew1) | exact HB.out)) hb); clear HB; have HB := n0_; clear n0_; (try clear hb); (try clear hb2); (try clear hk); (try clear hi)) | ((with_reducible refine gate_callee (f := 22) rfl ?_); refine goesL_ (some 49) rfl rfl Try.func22 (by kernel_rfl) rfl #[.string t532, .int .i64 t534] rfl (by (try simp only [List.map_toArray, List.map_cons, List.map_nil]); first | done | rfl | (simp only [List.length_drop, List.length_take]; rfl)) ?_; (with_reducible refine (impl_RestText.calls t532 t534 t539 true _ A13.out).mono ?_); rintro e w45 ⟨rfl, hb⟩; refine ⟨_, rfl, ?_⟩; have n0_ := Aside0.mk (below_step (by repeat (first | (with_reducible first | exact HB.out | apply below_alloc | apply pw_below_drewN | apply below_drew1) | exact HB.out)) hb); clear HB; have HB := n0_; clear n0_; (try clear hb); (try clear hb2); (try clear hk); (try clear hi)) | ((with_reducible refine gate_callee (f := 19) rfl ?_); refine goesL_ (some 55) rfl rfl Try.func19 (by kernel_rfl) rfl #[.string t532, .int .i64 t534, .int .i64 t533] rfl (by (try simp only [List.map_toArray, List.map_cons, List.map_nil]); first | done | rfl | (simp only [List.length_drop, List.length_take]; rfl)) ?_; (with_reducible refine (impl_RestSame.calls kj5 t532 t534 t533 true _ A14.out).mono ?_); rintro e w46 ⟨rfl, hb⟩; refine ⟨_, rfl, ?_⟩; have n0_ := Aside0.mk (below_step (by repeat (first | (with_reducible first | exact HB.out | apply below_alloc | apply pw_below_drewN | apply below_drew1) | exact HB.out)) hb); clear HB; have HB := n0_; clear n0_; (try clear hb); (try clear hb2); (try clear hk); (try clear hi)) | (go_at_call 19; (with_reducible refine (impl_RestSame.calls kj5 t532 (wrap64 (t533 + 1)) (wrap64 (t534 + 1)) true _ A40.out).mono ?_); rintro e w47 ⟨rfl, hb⟩; have n0_ := Aside0.mk (below_step (by repeat (first | (with_reducible first | exact HB.out | apply below_alloc | apply pw_below_drewN | apply below_drew1) | exact HB.out)) hb); clear HB; have HB := n0_; clear n0_; (try clear hb); (try clear hb2); (try clear hk); (try clear hi)))
                      go_ret
                      exact ⟨by first | rfl | (simp [errW_none, errW_some] <;> rfl) | (simp [*, errW_none, errW_some] <;> rfl) | (simp [errW_none, errW_some]; exact ⟨rfl, rfl⟩), by repeat (first | (with_reducible first | exact HB.out | apply below_alloc | apply pw_below_drewN | apply below_drew1) | exact HB.out)⟩
                    · replace c43 := Bool.eq_false_iff.mpr c43
                      subst c43
                      have H1 : (some false) = some r := by rw [if_neg (show ¬ (false = true) by decide)] at H; exact H
                      clear H
                      have H := H1
                      clear H1
                      obtain rfl := Option.some.inj H
                      go_wp2_with (first | ((with_reducible refine gate_callee (f := 22) rfl ?_); refine goesL_ (some 43) rfl rfl Try.func22 (by kernel_rfl) rfl #[.string t532, .int .i64 t533] rfl (by (try simp only [List.map_toArray, List.map_cons, List.map_nil]); first | done | rfl | (simp only [List.length_drop, List.length_take]; rfl)) ?_; (with_reducible refine (impl_RestText.calls t532 t533 t537 true _ A12.out).mono ?_); rintro e w48 ⟨rfl, hb⟩; refine ⟨_, rfl, ?_⟩; have n0_ := Aside0.mk (below_step (by repeat (first | (with_reducible first | exact HB.out | apply below_alloc | apply pw_below_drewN | apply below_drew1) | exact HB.out)) hb); clear HB; have HB := n0_; clear n0_; (try clear hb); (try clear hb2); (try clear hk); (try clear hi)) | ((with_reducible refine gate_callee (f := 22) rfl ?_); refine goesL_ (some 49) rfl rfl Try.func22 (by kernel_rfl) rfl #[.string t532, .int .i64 t534] rfl (by (try simp only [List.map_toArray, List.map_cons, List.map_nil]); first | done | rfl | (simp only [List.length_drop, List.length_take]; rfl)) ?_; (with_reducible refine (impl_RestText.calls t532 t534 t539 false _ A13.out).mono ?_); rintro e w49 ⟨rfl, hb⟩; refine ⟨_, rfl, ?_⟩; have n0_ := Aside0.mk (below_step (by repeat (first | (with_reducible first | exact HB.out | apply below_alloc | apply pw_below_drewN | apply below_drew1) | exact HB.out)) hb); clear HB; have HB := n0_; clear n0_; (try clear hb); (try clear hb2); (try clear hk); (try clear hi)) | ((with_reducible refine gate_callee (f := 19) rfl ?_); refine goesL_ (some 55) rfl rfl Try.func19 (by kernel_rfl) rfl #[.string t532, .int .i64 t534, .int .i64 t533] rfl (by (try simp only [List.map_toArray, List.map_cons, List.map_nil]); first | done | rfl | (simp only [List.length_drop, List.length_take]; rfl)) ?_; (with_reducible refine (impl_RestSame.calls kj5 t532 t534 t533 true _ A14.out).mono ?_); rintro e w50 ⟨rfl, hb⟩; refine ⟨_, rfl, ?_⟩; have n0_ := Aside0.mk (below_step (by repeat (first | (with_reducible first | exact HB.out | apply below_alloc | apply pw_below_drewN | apply below_drew1) | exact HB.out)) hb); clear HB; have HB := n0_; clear n0_; (try clear hb); (try clear hb2); (try clear hk); (try clear hi)) | (go_at_call 19; (with_reducible refine (impl_RestSame.calls kj5 t532 (wrap64 (t533 + 1)) (wrap64 (t534 + 1)) true _ A40.out).mono ?_); rintro e w51 ⟨rfl, hb⟩; have n0_ := Aside0.mk (below_step (by repeat (first | (with_reducible first | exact HB.out | apply below_alloc | apply pw_below_drewN | apply below_drew1) | exact HB.out)) hb); clear HB; have HB := n0_; clear n0_; (try clear hb); (try clear hb2); (try clear hk); (try clear hi)))
                      go_ret
                      exact ⟨by first | rfl | (simp [errW_none, errW_some] <;> rfl) | (simp [*, errW_none, errW_some] <;> rfl) | (simp [errW_none, errW_some]; exact ⟨rfl, rfl⟩), by repeat (first | (with_reducible first | exact HB.out | apply below_alloc | apply pw_below_drewN | apply below_drew1) | exact HB.out)⟩
                  · replace c42 := Bool.eq_false_iff.mpr c42
                    subst c42
                    have H1 : (some false) = some r := by rw [if_neg (show ¬ (false = true) by decide)] at H; exact H
                    clear H
                    have H := H1
                    clear H1
                    obtain rfl := Option.some.inj H
                    go_wp2_with (first | ((with_reducible refine gate_callee (f := 22) rfl ?_); refine goesL_ (some 43) rfl rfl Try.func22 (by kernel_rfl) rfl #[.string t532, .int .i64 t533] rfl (by (try simp only [List.map_toArray, List.map_cons, List.map_nil]); first | done | rfl | (simp only [List.length_drop, List.length_take]; rfl)) ?_; (with_reducible refine (impl_RestText.calls t532 t533 t537 false _ A12.out).mono ?_); rintro e w52 ⟨rfl, hb⟩; refine ⟨_, rfl, ?_⟩; have n0_ := Aside0.mk (below_step (by repeat (first | (with_reducible first | exact HB.out | apply below_alloc | apply pw_below_drewN | apply below_drew1) | exact HB.out)) hb); clear HB; have HB := n0_; clear n0_; (try clear hb); (try clear hb2); (try clear hk); (try clear hi)) | ((with_reducible refine gate_callee (f := 22) rfl ?_); refine goesL_ (some 49) rfl rfl Try.func22 (by kernel_rfl) rfl #[.string t532, .int .i64 t534] rfl (by (try simp only [List.map_toArray, List.map_cons, List.map_nil]); first | done | rfl | (simp only [List.length_drop, List.length_take]; rfl)) ?_; (with_reducible refine (impl_RestText.calls t532 t534 t539 t540 _ A13.out).mono ?_); rintro e w53 ⟨rfl, hb⟩; refine ⟨_, rfl, ?_⟩; have n0_ := Aside0.mk (below_step (by repeat (first | (with_reducible first | exact HB.out | apply below_alloc | apply pw_below_drewN | apply below_drew1) | exact HB.out)) hb); clear HB; have HB := n0_; clear n0_; (try clear hb); (try clear hb2); (try clear hk); (try clear hi)) | ((with_reducible refine gate_callee (f := 19) rfl ?_); refine goesL_ (some 55) rfl rfl Try.func19 (by kernel_rfl) rfl #[.string t532, .int .i64 t534, .int .i64 t533] rfl (by (try simp only [List.map_toArray, List.map_cons, List.map_nil]); first | done | rfl | (simp only [List.length_drop, List.length_take]; rfl)) ?_; (with_reducible refine (impl_RestSame.calls kj5 t532 t534 t533 true _ A14.out).mono ?_); rintro e w54 ⟨rfl, hb⟩; refine ⟨_, rfl, ?_⟩; have n0_ := Aside0.mk (below_step (by repeat (first | (with_reducible first | exact HB.out | apply below_alloc | apply pw_below_drewN | apply below_drew1) | exact HB.out)) hb); clear HB; have HB := n0_; clear n0_; (try clear hb); (try clear hb2); (try clear hk); (try clear hi)) | (go_at_call 19; (with_reducible refine (impl_RestSame.calls kj5 t532 (wrap64 (t533 + 1)) (wrap64 (t534 + 1)) true _ A40.out).mono ?_); rintro e w55 ⟨rfl, hb⟩; have n0_ := Aside0.mk (below_step (by repeat (first | (with_reducible first | exact HB.out | apply below_alloc | apply pw_below_drewN | apply below_drew1) | exact HB.out)) hb); clear HB; have HB := n0_; clear n0_; (try clear hb); (try clear hb2); (try clear hk); (try clear hi)))
                    go_ret
                    exact ⟨by first | rfl | (simp [errW_none, errW_some] <;> rfl) | (simp [*, errW_none, errW_some] <;> rfl) | (simp [errW_none, errW_some]; exact ⟨rfl, rfl⟩), by repeat (first | (with_reducible first | exact HB.out | apply below_alloc | apply pw_below_drewN | apply below_drew1) | exact HB.out)⟩
                · replace c41 := Bool.eq_false_iff.mpr c41
                  subst c41
                  have H1 : (some false) = some r := by rw [if_neg (show ¬ (false = true) by decide)] at H; exact H
                  clear H
                  have H := H1
                  clear H1
                  obtain rfl := Option.some.inj H
                  go_wp2_with (first | ((with_reducible refine gate_callee (f := 22) rfl ?_); refine goesL_ (some 43) rfl rfl Try.func22 (by kernel_rfl) rfl #[.string t532, .int .i64 t533] rfl (by (try simp only [List.map_toArray, List.map_cons, List.map_nil]); first | done | rfl | (simp only [List.length_drop, List.length_take]; rfl)) ?_; (with_reducible refine (impl_RestText.calls t532 t533 t537 t538 _ A12.out).mono ?_); rintro e w56 ⟨rfl, hb⟩; refine ⟨_, rfl, ?_⟩; have n0_ := Aside0.mk (below_step (by repeat (first | (with_reducible first | exact HB.out | apply below_alloc | apply pw_below_drewN | apply below_drew1) | exact HB.out)) hb); clear HB; have HB := n0_; clear n0_; (try clear hb); (try clear hb2); (try clear hk); (try clear hi)) | ((with_reducible refine gate_callee (f := 22) rfl ?_); refine goesL_ (some 49) rfl rfl Try.func22 (by kernel_rfl) rfl #[.string t532, .int .i64 t534] rfl (by (try simp only [List.map_toArray, List.map_cons, List.map_nil]); first | done | rfl | (simp only [List.length_drop, List.length_take]; rfl)) ?_; (with_reducible refine (impl_RestText.calls t532 t534 t539 t540 _ A13.out).mono ?_); rintro e w57 ⟨rfl, hb⟩; refine ⟨_, rfl, ?_⟩; have n0_ := Aside0.mk (below_step (by repeat (first | (with_reducible first | exact HB.out | apply below_alloc | apply pw_below_drewN | apply below_drew1) | exact HB.out)) hb); clear HB; have HB := n0_; clear n0_; (try clear hb); (try clear hb2); (try clear hk); (try clear hi)) | ((with_reducible refine gate_callee (f := 19) rfl ?_); refine goesL_ (some 55) rfl rfl Try.func19 (by kernel_rfl) rfl #[.string t532, .int .i64 t534, .int .i64 t533] rfl (by (try simp only [List.map_toArray, List.map_cons, List.map_nil]); first | done | rfl | (simp only [List.length_drop, List.length_take]; rfl)) ?_; (with_reducible refine (impl_RestSame.calls kj5 t532 t534 t533 true _ A14.out).mono ?_); rintro e w58 ⟨rfl, hb⟩; refine ⟨_, rfl, ?_⟩; have n0_ := Aside0.mk (below_step (by repeat (first | (with_reducible first | exact HB.out | apply below_alloc | apply pw_below_drewN | apply below_drew1) | exact HB.out)) hb); clear HB; have HB := n0_; clear n0_; (try clear hb); (try clear hb2); (try clear hk); (try clear hi)) | (go_at_call 19; (with_reducible refine (impl_RestSame.calls kj5 t532 (wrap64 (t533 + 1)) (wrap64 (t534 + 1)) false _ A40.out).mono ?_); rintro e w59 ⟨rfl, hb⟩; have n0_ := Aside0.mk (below_step (by repeat (first | (with_reducible first | exact HB.out | apply below_alloc | apply pw_below_drewN | apply below_drew1) | exact HB.out)) hb); clear HB; have HB := n0_; clear n0_; (try clear hb); (try clear hb2); (try clear hk); (try clear hi)))
                  go_ret
                  exact ⟨by first | rfl | (simp [errW_none, errW_some] <;> rfl) | (simp [*, errW_none, errW_some] <;> rfl) | (simp [errW_none, errW_some]; exact ⟨rfl, rfl⟩), by repeat (first | (with_reducible first | exact HB.out | apply below_alloc | apply pw_below_drewN | apply below_drew1) | exact HB.out)⟩
          · replace c15 := Bool.eq_false_iff.mpr c15
            subst c15
            have H1 : (some false) = some r := by rw [if_neg (show ¬ (false = true) by decide)] at H; exact H
            clear H
            have H := H1
            clear H1
            obtain rfl := Option.some.inj H
            go_wp2_with (first | ((with_reducible refine gate_callee (f := 22) rfl ?_); refine goesL_ (some 43) rfl rfl Try.func22 (by kernel_rfl) rfl #[.string t532, .int .i64 t533] rfl (by (try simp only [List.map_toArray, List.map_cons, List.map_nil]); first | done | rfl | (simp only [List.length_drop, List.length_take]; rfl)) ?_; (with_reducible refine (impl_RestText.calls t532 t533 t537 t538 _ A12.out).mono ?_); rintro e w60 ⟨rfl, hb⟩; refine ⟨_, rfl, ?_⟩; have n0_ := Aside0.mk (below_step (by repeat (first | (with_reducible first | exact HB.out | apply below_alloc | apply pw_below_drewN | apply below_drew1) | exact HB.out)) hb); clear HB; have HB := n0_; clear n0_; (try clear hb); (try clear hb2); (try clear hk); (try clear hi)) | ((with_reducible refine gate_callee (f := 22) rfl ?_); refine goesL_ (some 49) rfl rfl Try.func22 (by kernel_rfl) rfl #[.string t532, .int .i64 t534] rfl (by (try simp only [List.map_toArray, List.map_cons, List.map_nil]); first | done | rfl | (simp only [List.length_drop, List.length_take]; rfl)) ?_; (with_reducible refine (impl_RestText.calls t532 t534 t539 t540 _ A13.out).mono ?_); rintro e w61 ⟨rfl, hb⟩; refine ⟨_, rfl, ?_⟩; have n0_ := Aside0.mk (below_step (by repeat (first | (with_reducible first | exact HB.out | apply below_alloc | apply pw_below_drewN | apply below_drew1) | exact HB.out)) hb); clear HB; have HB := n0_; clear n0_; (try clear hb); (try clear hb2); (try clear hk); (try clear hi)) | ((with_reducible refine gate_callee (f := 19) rfl ?_); refine goesL_ (some 55) rfl rfl Try.func19 (by kernel_rfl) rfl #[.string t532, .int .i64 t534, .int .i64 t533] rfl (by (try simp only [List.map_toArray, List.map_cons, List.map_nil]); first | done | rfl | (simp only [List.length_drop, List.length_take]; rfl)) ?_; (with_reducible refine (impl_RestSame.calls kj5 t532 t534 t533 false _ A14.out).mono ?_); rintro e w62 ⟨rfl, hb⟩; refine ⟨_, rfl, ?_⟩; have n0_ := Aside0.mk (below_step (by repeat (first | (with_reducible first | exact HB.out | apply below_alloc | apply pw_below_drewN | apply below_drew1) | exact HB.out)) hb); clear HB; have HB := n0_; clear n0_; (try clear hb); (try clear hb2); (try clear hk); (try clear hi)))
            go_ret
            exact ⟨by first | rfl | (simp [errW_none, errW_some] <;> rfl) | (simp [*, errW_none, errW_some] <;> rfl) | (simp [errW_none, errW_some]; exact ⟨rfl, rfl⟩), by repeat (first | (with_reducible first | exact HB.out | apply below_alloc | apply pw_below_drewN | apply below_drew1) | exact HB.out)⟩

/-- THE ONE PURE STATEMENT of laws_FnRestSame: yours. -/
noncomputable def laws_FnRestSame.Pure : Prop := ∀ (l0 : List Int), l0.length ≤ maxLen → l0.length * 1 ≤ 140737488351232 → (∀ x ∈ l0, (Lit.int .u8 x).wf = true) → ∃ k, laws_FnRestSame.f k l0 = some true
theorem laws_FnRestSame.walk (P : laws_FnRestSame.Pure) (a0 : Option Addr) (len0 cap0 : Nat) (z0 : List Int) (w : World) (w0 : (a0 = none ∧ len0 = 0 ∧ cap0 = 0 ∧ z0 = []) ∨ ∃ x, a0 = some x ∧ len0 ≤ cap0 ∧ cap0 ≤ maxLen ∧ z0.length = cap0 ∧ (∀ i, i < z0.length → w.cell? (x.add i) = some (.int .u8 (z0.getD i 0))) ∧ ∀ n ∈ z0, (Lit.int .u8 n).wf = true) (y0 : len0 * 1 ≤ 140737488351232) :
    Calls Try.prog 6 #[.slice a0 len0 cap0] w fun e w' => e = .returned (.bool true) ∧ Below w.heap.size w w' := by
  obtain ⟨l0, rfl, hr0, hm0, hw0, hc0⟩ := ReadsInt.ofRowC w0
  obtain ⟨k, h⟩ := P l0 hm0 y0 hw0
  refine (laws_FnRestSame.calls k _ _ l0 true w (Kd.C_of_reads (d := (0 : Int)) (h1 := fun _ => rfl) hr0) hc0 h).mono ?_
  rintro e w' ⟨rfl, hd⟩
  exact ⟨rfl, hd⟩

end Go.Proofs.Ytidfckekbaedpaa.P

-- spec.RestText and impl.RestText tell the rest.
namespace Go.Proofs.Ytidfckekbaedpaa.P
open Go.RowKit Go.Proofs.YtidfckekbaedpaaW.PrintWords Go.Proofs.YtidfckekbaedpaaW.PrintLast Go.Proofs.YtidfckekbaedpaaW.PrintMore
set_option linter.unusedVariables false
set_option linter.unusedSimpArgs false

theorem dwn_some {s : List UInt8} {a b : List Bool} (h : parse s = some (a, b)) (n : Nat) (hn : n ≤ 1000) : dwn s n = (textOf (cn (shf (hasB a b) n)).1 (cn (shf (hasB a b) n)).2, true) := by
  have hb := parse_some h
  have hs := cn_spec (List.length_pos_iff.2 hb.2.2) (shf_per (hasB_per a b) n)
  unfold dwn
  rw [h, setf_some h, Int.toNat_natCast, txt_ok (by omega) (by omega)]
  simp; omega
theorem dwn_out {s : List UInt8} {n : Int} (h : ¬ (0 ≤ n ∧ n ≤ 1000)) : dwn s n = (⟨#[]⟩, false) := by
  unfold dwn; rw [decide_eq_false h, Bool.and_false]; rfl
theorem dwn_none {s : List UInt8} (h : parse s = none) (n : Int) : dwn s n = (⟨#[]⟩, false) := by
  unfold dwn; rw [h]; rfl
theorem makeDown_f (s : ByteArray) (hs : s.size ≤ 70368744177664) (n : Int) : impl_MakeDown.f s n = some (dwn (chrs s) n) := by unfold impl_MakeDown.f; rw [if_pos hs]
theorem irestText_f (s : ByteArray) (hs : s.size ≤ 70368744177664) (n : Int) : impl_RestText.f s n = some (dwn (chrs s) n) := by
  unfold impl_RestText.f; rw [makeDown_f s hs]; rfl
theorem srestText_f (s : ByteArray) (hs : s.size ≤ 70368744177664) (n : Int) : Ev (fun k => spec_RestText.f k s n) (dwn (chrs s) n) := by
  cases h : parse (chrs s) with
  | none =>
    obtain ⟨a, b, he⟩ := given_none hs n h
    rw [dwn_none h]
    refine Ev.congr (fun k => rfl) (Ev.bind he ?_)
    simp only [Bool.false_eq_true, if_false]; exact Ev.now _
  | some ab =>
    have hb := parse_some (a := ab.1) (b := ab.2) h
    refine Ev.congr (fun k => rfl) (Ev.bind (given_some (a := ab.1) (b := ab.2) hs n h) ?_)
    by_cases hn : 0 ≤ n ∧ n ≤ 1000
    · simp only [hn, and_self, decide_true, if_true]
      obtain ⟨m, rfl⟩ := Int.eq_ofNat_of_zero_le hn.1
      rw [dwn_some (a := ab.1) (b := ab.2) h m (by omega)]
      exact Ev.bind (down_f ab.1 ab.2 hb.2.2 (by omega) m (by omega)) (Ev.now _)
    · rw [dwn_out hn]
      simp only [hn, decide_false, Bool.false_eq_true, if_false]; exact Ev.now _

end Go.Proofs.Ytidfckekbaedpaa.P

-- spec.RestSame compares the rests' texts.
namespace Go.Proofs.Ytidfckekbaedpaa.P
open Go.RowKit Go.Proofs.YtidfckekbaedpaaW.PrintWords Go.Proofs.YtidfckekbaedpaaW.PrintLast Go.Proofs.YtidfckekbaedpaaW.PrintMore
set_option linter.unusedVariables false
set_option linter.unusedSimpArgs false

theorem rsame_eq {s : List UInt8} {a b : List Bool} (h : parse s = some (a, b)) {i j : Nat} (hi : i ≤ 1000) (hj : j ≤ 1000) : rsame s i j = decide (rpl (hasB a b) i = rpl (hasB a b) j) := by
  unfold rsame
  rw [h]
  simp only [Int.toNat_natCast]
  rw [decide_eq_true (by omega : 0 ≤ (i : Int) ∧ (i : Int) ≤ 1000), decide_eq_true (by omega : 0 ≤ (j : Int) ∧ (j : Int) ≤ 1000)]
  rfl
theorem rsame_none {s : List UInt8} (h : parse s = none) (i j : Int) : rsame s i j = false := by unfold rsame; rw [h]
theorem rsame_out1 {s : List UInt8} {i : Int} (h : ¬ (0 ≤ i ∧ i ≤ 1000)) (j : Int) : rsame s i j = false := by
  unfold rsame; split
  · rw [decide_eq_false h]; rfl
  · rfl
theorem rsame_out2 {s : List UInt8} {j : Int} (h : ¬ (0 ≤ j ∧ j ≤ 1000)) (i : Int) : rsame s i j = false := by
  unfold rsame; split
  · rw [decide_eq_false h, Bool.and_false]; rfl
  · rfl
theorem srestSame_f (s : ByteArray) (hs : s.size ≤ 70368744177664) (i j : Int) : Ev (fun k => spec_RestSame.f k s i j) (rsame (chrs s) i j) := by
  cases h : parse (chrs s) with
  | none =>
    obtain ⟨a, b, he⟩ := given_none hs i h
    rw [rsame_none h]
    refine Ev.congr (fun k => rfl) (Ev.bind he ?_)
    simp only [Bool.false_eq_true, if_false]; exact Ev.now _
  | some ab =>
    have hb := parse_some (a := ab.1) (b := ab.2) h
    have hp := List.length_pos_iff.2 hb.2.2
    refine Ev.congr (fun k => rfl) (Ev.bind (given_some (a := ab.1) (b := ab.2) hs i h) ?_)
    by_cases hi : 0 ≤ i ∧ i ≤ 1000
    · by_cases hj : 0 ≤ j ∧ j ≤ 1000
      · simp only [hi, hj, and_self, decide_true, if_true, l6in_f, Option.bind_some]
        obtain ⟨i, rfl⟩ := Int.eq_ofNat_of_zero_le hi.1
        obtain ⟨j, rfl⟩ := Int.eq_ofNat_of_zero_le hj.1
        rw [rsame_eq (a := ab.1) (b := ab.2) h (by omega) (by omega)]
        refine Ev.bind (down_f ab.1 ab.2 hb.2.2 (by omega) i (by omega)) (Ev.bind (down_f ab.1 ab.2 hb.2.2 (by omega) j (by omega)) ?_)
        have e : ((textOf (cn (shf (hasB ab.1 ab.2) i)).1 (cn (shf (hasB ab.1 ab.2) i)).2).toList == (textOf (cn (shf (hasB ab.1 ab.2) j)).1 (cn (shf (hasB ab.1 ab.2) j)).2).toList) = decide (rpl (hasB ab.1 ab.2) i = rpl (hasB ab.1 ab.2) j) := by
          rw [Bool.eq_iff_iff, beq_iff_eq, decide_eq_true_iff, ← rtext_eq hp (hasB_per ab.1 ab.2) hb.1 hb.2.1]
          exact ⟨fun e => toList_inj e, fun e => congrArg ByteArray.toList e⟩
        rw [e]; exact Ev.now _
      · rw [rsame_out2 hj]
        simp only [hi, hj, and_self, decide_true, decide_false, if_true, l6in_f, Option.bind_some, Bool.false_eq_true, if_false]
        exact Ev.now _
    · rw [rsame_out1 hi]
      simp only [hi, decide_false, Bool.false_eq_true, if_false]; exact Ev.now _

end Go.Proofs.Ytidfckekbaedpaa.P

-- For every code the law FnRestSame holds.
namespace Go.Proofs.Ytidfckekbaedpaa.P
open Go.RowKit Go.Proofs.YtidfckekbaedpaaW.PrintWords Go.Proofs.YtidfckekbaedpaaW.PrintLast Go.Proofs.YtidfckekbaedpaaW.PrintMore
set_option linter.unusedVariables false
set_option linter.unusedSimpArgs false

theorem drawRestSame_f (l : List Int) (h : ∀ x ∈ l, (Lit.int .u8 x).wf = true) : ∃ s i n, Few s ∧ Ev (fun k => spec_DrawRestSame.f k l) (s, i, n) := by
  obtain ⟨s, q, hf, hq, he⟩ := set91_f (code_of h) 0 (by omega)
  obtain ⟨i, q2, _, _, hq2, he2⟩ := num91_f (code_of h) q 1000 (by omega) (by omega)
  obtain ⟨n, q3, _, _, _, he3⟩ := num91_f (code_of h) q2 1000 (by omega) (by omega)
  refine ⟨s, i, n, hf, Ev.congr (f := fun k => (spec_l91Set.f k (l.take 2000) 0).bind fun bt513 => ((spec_l91Number.f k (l.take 2000) bt513.2 1000).bind fun bt515 => ((spec_l91Number.f k (l.take 2000) bt515.2 1000).bind fun bt517 => (some (bt513.1, bt515.1, bt517.1))))) (fun k => ?_) (Ev.bind he (Ev.bind he2 (Ev.bind he3 (Ev.now _))))⟩
  unfold spec_DrawRestSame.f; rw [open_f]; rfl
theorem rsame_true {s : List UInt8} {i j : Int} (h : rsame s i j = true) : ∃ a b m n, parse s = some (a, b) ∧ i = (m : Nat) ∧ j = (n : Nat) ∧ m ≤ 1000 ∧ n ≤ 1000 ∧ rpl (hasB a b) m = rpl (hasB a b) n := by
  cases hp : parse s with
  | none => rw [rsame_none hp] at h; cases h
  | some ab =>
    by_cases hi : 0 ≤ i ∧ i ≤ 1000
    · by_cases hj : 0 ≤ j ∧ j ≤ 1000
      · obtain ⟨m, rfl⟩ := Int.eq_ofNat_of_zero_le hi.1
        obtain ⟨n, rfl⟩ := Int.eq_ofNat_of_zero_le hj.1
        rw [rsame_eq (a := ab.1) (b := ab.2) hp (by omega) (by omega)] at h
        exact ⟨ab.1, ab.2, m, n, rfl, rfl, rfl, by omega, by omega, of_decide_eq_true h⟩
      · rw [rsame_out2 hj] at h; cases h
    · rw [rsame_out1 hi] at h; cases h
theorem lawRestSame_j (s : ByteArray) (hs : s.size ≤ 70368744177664) {a b : List Bool} (h : parse (chrs s) = some (a, b)) (m n : Nat) (hm : m ≤ 1000) (hn : n ≤ 1000) (he : rpl (hasB a b) m = rpl (hasB a b) n) :
    Ev (fun k => laws_FnRestSame.j0 k s m n true false) true := by
  have hb := parse_some h
  have hp := List.length_pos_iff.2 hb.2.2
  have hper := hasB_per a b
  have hsh : shf (hasB a b) m = shf (hasB a b) n := (rpl_eq hp hper m n).2 he
  have e1 := restSame_f s hs n m
  rw [rsame_eq h hn hm, decide_eq_true he.symm] at e1
  have t1 := irestText_f s hs m
  have t2 := irestText_f s hs n
  rw [dwn_some h m hm] at t1
  rw [dwn_some h n hn, ← hsh] at t2
  refine Ev.step (f := fun k => (impl_RestSame.f k s n m).bind fun t541 => (if t541 = true then (if (m : Int) = 1000 then some true else (if (n : Int) = 1000 then some true else ((impl_RestSame.f k s ((m + 1 : Nat) : Int) ((n + 1 : Nat) : Int)).bind fun t542 => (if t542 = true then some true else (some false))))) else (some false))) (fun k => ?_) (Ev.bind e1 ?_)
  · simp only [laws_FnRestSame.j0]
    rw [if_neg (by decide), t1, t2, wsucc (by omega), wsucc (by omega)]
    simp only [Option.bind_some, if_true, BEq.rfl]
  · simp only [if_true]
    by_cases h1 : (m : Int) = 1000
    · simp only [if_pos h1]; exact Ev.now _
    · by_cases h2 : (n : Int) = 1000
      · simp only [if_neg h1, if_pos h2]; exact Ev.now _
      · simp only [if_neg h1, if_neg h2]
        have e2 := restSame_f s hs ((m + 1 : Nat) : Int) ((n + 1 : Nat) : Int)
        have hsh2 : shf (hasB a b) (m + 1) = shf (hasB a b) (n + 1) := by
          funext x
          have := congrFun hsh (x + 1)
          unfold shf at this ⊢
          rw [show x + (m + 1) = x + 1 + m by omega, show x + (n + 1) = x + 1 + n by omega]; exact this
        rw [rsame_eq h (by omega) (by omega), decide_eq_true ((rpl_eq hp hper _ _).1 hsh2)] at e2
        refine Ev.bind e2 ?_
        simp only [if_true]; exact Ev.now _
theorem lawRestSame_ev (l : List Int) (h : ∀ x ∈ l, (Lit.int .u8 x).wf = true) : Ev (fun k => laws_FnRestSame.f k l) true := by
  by_cases hl : (l.length : Int) > 1048576
  · refine Ev.congr (f := fun _ => some true) (fun k => ?_) (Ev.now _)
    unfold laws_FnRestSame.f; rw [if_pos hl]
  · obtain ⟨s, i, n, hf, hd⟩ := drawRestSame_f l h
    have hz := hf.size
    have hs : s.size ≤ 70368744177664 := by omega
    have e1 := restSame_f s hs i n
    have e2 := srestSame_f s hs i n
    refine Ev.congr (f := fun k => (spec_DrawRestSame.f k l).bind fun bt532 => ((impl_RestSame.f k bt532.1 bt532.2.1 bt532.2.2).bind fun t535 => ((spec_RestSame.f k bt532.1 bt532.2.1 bt532.2.2).bind fun t536 => (if ((t535 == t536) = true) then (laws_FnRestSame.j0 k bt532.1 bt532.2.1 bt532.2.2 (t535 == t536) (!t535)) else (laws_FnRestSame.j0 k bt532.1 bt532.2.1 bt532.2.2 (t535 == t536) true))))) (fun k => ?_) (Ev.bind hd (Ev.bind e1 (Ev.bind e2 ?_)))
    · unfold laws_FnRestSame.f; rw [if_neg hl]
    · simp only [if_true, BEq.rfl]
      cases hr : rsame (chrs s) i n with
      | false =>
        refine Ev.step (f := fun k => some true) (fun k => ?_) (Ev.now _)
        simp only [laws_FnRestSame.j0]; rfl
      | true =>
        obtain ⟨a, b, m, m2, hp, rfl, rfl, h1, h2, h3⟩ := rsame_true hr
        exact lawRestSame_j s hs hp m m2 h1 h2 h3
theorem lawRestSame_pure : laws_FnRestSame.Pure := fun l _ _ h => (lawRestSame_ev l h).rounds
end Go.Proofs.Ytidfckekbaedpaa.P

-- For every code the law FnRestSame holds.
namespace Go.Proofs.Ytidfckekbaedpaa.Pure
theorem FnRestSame : Go.Proofs.Ytidfckekbaedpaa.P.laws_FnRestSame.Pure := Go.Proofs.Ytidfckekbaedpaa.P.lawRestSame_pure
end Go.Proofs.Ytidfckekbaedpaa.Pure
