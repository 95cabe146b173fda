/- What these laws reach, joined by a program of this session: contracts (written by that program over the kit's print, or by hand) and plain lemmas. -/
import Derived.Test.YtgheopbdmijlkaaK1
import Derived.Test.YtgheopbdmijlkaaK3
import Derived.Test.YtgheopbdmijlkaaK4
-- impl.MakeEither.
namespace Go.Proofs.Ytgheopbdmijlkaa.P
open Go.RowKit Go.Proofs.YtgheopbdmijlkaaW.PrintWords Go.Proofs.YtgheopbdmijlkaaW.PrintLast Go.Proofs.YtgheopbdmijlkaaW.PrintMore
set_option linter.unusedVariables false
set_option linter.unusedSimpArgs false

noncomputable def impl_MakeEither.f (s t : ByteArray) : Option (ByteArray × Bool) := if s.size ≤ 70368744177664 ∧ t.size ≤ 70368744177664 then some (two (fun x y => x || y) (chrs s) (chrs t)) else none
theorem makeEither_f (s t : ByteArray) (hs : s.size ≤ 70368744177664) (ht : t.size ≤ 70368744177664) : impl_MakeEither.f s t = some (two (fun x y => x || y) (chrs s) (chrs t)) := by unfold impl_MakeEither.f; rw [if_pos ⟨hs, ht⟩]

set_option maxHeartbeats 8000000 in
theorem either_q_calls (p q : Bool) (W : World) :
    Calls Try.prog 27 #[.bool p, .bool q] W fun e w' => e = .returned (.bool (p || q)) ∧ Below W.heap.size W w' := by
  cases p <;> cases q
  all_goals
    go_enter Try.func27, Try.ntmps27
    go_wp2
    go_ret
    exact ⟨rfl, Below.refl _ _⟩

set_option maxHeartbeats 8000000 in
set_option maxRecDepth 100000 in
theorem impl_MakeEither.calls (a0 a1 : ByteArray) (r1 : ByteArray) (r2 : Bool) (w : World) (h : impl_MakeEither.f a0 a1 = some (r1, r2)) :
    Calls Try.prog 12 #[.string a0, .string a1] w fun e w' => e = .returned (.tuple #[.string r1, .bool r2]) ∧ Below w.heap.size w w' := by
  unfold impl_MakeEither.f at h
  split at h
  · rename_i hs
    simp only [Option.some.injEq] at h
    have eg : ∀ args w, (callFunc 27 args).run Try.prog w = .ok (.enter 27 args) w := enters_of Try.func27 (by kernel_rfl) rfl
    have hx : ∀ w1 : World, Calls Try.prog 25 #[.string a0, .string a1, .func (.func 27) #[] #[]] w1 fun e w' => e = .returned (.tuple #[.string r1, .bool r2]) ∧ Below w1.heap.size w1 w' := by
      intro w1
      have := pair_calls a0 a1 hs.1 hs.2 27 #[] (fun x y => x || y) w1 eg (fun W p q _ => either_q_calls p q W)
      rw [h] at this
      exact this
    have HX := Aside0.mk hx
    clear hx h hs eg
    go_enter Try.func12, Try.ntmps12
    go_wp2_with (go_at_call 25; refine (HX.out _).mono ?_; rintro e w2 ⟨rfl, hb2⟩)
    go_ret2
    exact ⟨rfl, hb2⟩
  · cases h
end Go.Proofs.Ytgheopbdmijlkaa.P

namespace Go.Proofs.Ytgheopbdmijlkaa.P
open Go.RowKit Go.Proofs.YtgheopbdmijlkaaW.PrintWords Go.Proofs.YtgheopbdmijlkaaW.PrintLast Go.Proofs.YtgheopbdmijlkaaW.PrintMore
attribute [local go_sem] max2_int min2_int max_two min_two max_three min_three max_four min_four   -- for this text's walks alone
set_option linter.unusedVariables false
set_option linter.unusedSimpArgs false

/-! ### spec_MakeEither: function 11 -/
def spec_MakeEither.f (k : Nat) (a0 : ByteArray) (a1 : ByteArray) : Option (ByteArray × Bool) := (spec_l2Two.f k a0 a1 14).bind fun bt316 => (some (bt316.1, bt316.2))
theorem spec_MakeEither.mono : ∀ a0 a1 k, LeO (spec_MakeEither.f k a0 a1) (spec_MakeEither.f (k + 1) a0 a1) := by
  intro a0 a1 k
  unfold spec_MakeEither.f
  repeat' first
      | (with_reducible exact spec_l2Two.mono _ _ _ _)
      | (with_reducible exact LeO.refl _)
      | (with_reducible exact LeO.none _)
      | (with_reducible refine LeO.ite ?_ ?_)
      | (with_reducible refine LeO.bind ?_ (fun _ => ?_))
      | exact spec_l2Two.mono _ _ _ _
      | exact LeO.none _
      | refine LeO.ite ?_ ?_
      | refine LeO.bind ?_ (fun _ => ?_)
set_option maxHeartbeats 8000000 in
set_option maxRecDepth 100000 in
theorem spec_MakeEither.calls (k : Nat) (a0 : ByteArray) (a1 : ByteArray) (r1 : ByteArray) (r2 : Bool) (w : World) (h : spec_MakeEither.f k a0 a1 = some (r1, r2)) :
    Calls Try.prog 11 #[.string a0, .string a1] w fun e w' => e = .returned (.tuple #[.string r1, .bool r2]) ∧ Below w.heap.size w w' := by
  have HB := Aside0.mk (Below.refl w.heap.size w)
  have H : ((spec_l2Two.f k a0 a1 14).bind fun bt316 => (some (bt316.1, bt316.2))) = some (r1, r2) := h
  clear h
  replace H := Option.bind_eq_some_iff.mp H
  obtain ⟨⟨t316, t317⟩, A30, H⟩ := H
  replace H : (some (t316, t317)) = some (r1, r2) := H
  have A3 := Aside0.mk A30
  clear A30
  simp only [Option.some.injEq, Prod.mk.injEq] at H
  obtain ⟨rfl, rfl⟩ := H
  go_enter Try.func11, Try.ntmps11
  go_wp2_with (first | ((with_reducible refine gate_callee (f := 24) rfl ?_); refine goesL_ (some 8) rfl rfl Try.func24 (by kernel_rfl) rfl #[.string a0, .string a1, .int .i64 14] rfl (by (try simp only [List.map_toArray, List.map_cons, List.map_nil]); first | done | rfl | (simp only [List.length_drop, List.length_take]; rfl)) ?_; (with_reducible refine (spec_l2Two.calls k a0 a1 14 t316 t317 _ A3.out).mono ?_); rintro e w4 ⟨rfl, hb⟩; refine ⟨_, rfl, ?_⟩; have n0_ := Aside0.mk (below_step (by repeat (first | (with_reducible first | exact HB.out | apply below_alloc | apply pw_below_drewN | apply below_drew1) | exact HB.out)) hb); clear HB; have HB := n0_; clear n0_; (try clear hb); (try clear hb2); (try clear hk); (try clear hi)))
  go_ret2
  exact ⟨by first | rfl | (simp [errW_none, errW_some] <;> rfl) | (simp [*, errW_none, errW_some] <;> rfl) | (simp [errW_none, errW_some]; exact ⟨rfl, rfl⟩), by repeat (first | (with_reducible first | exact HB.out | apply below_alloc | apply pw_below_drewN | apply below_drew1) | exact HB.out)⟩

end Go.Proofs.Ytgheopbdmijlkaa.P

namespace Go.Proofs.Ytgheopbdmijlkaa.P
open Go.RowKit Go.Proofs.YtgheopbdmijlkaaW.PrintWords Go.Proofs.YtgheopbdmijlkaaW.PrintLast Go.Proofs.YtgheopbdmijlkaaW.PrintMore
attribute [local go_sem] max2_int min2_int max_two min_two max_three min_three max_four min_four   -- for this text's walks alone
set_option linter.unusedVariables false
set_option linter.unusedSimpArgs false

/-! ### laws_FnExactMakeEither: function 4 -/
noncomputable def laws_FnExactMakeEither.f (k : Nat) (a0 : ByteArray) (a1 : ByteArray) : Option (Bool) := if (a0.size : Int) > 1048576 then (some true) else (if (a1.size : Int) > 1048576 then (some true) else ((spec_MakeEither.f k a0 a1).bind fun bt318 => ((impl_MakeEither.f a0 a1).bind fun bt320 => (if bt320.1.toList = bt318.1.toList then (if (bt320.2 != bt318.2) = true then (some false) else (some true)) else (some false)))))
theorem laws_FnExactMakeEither.mono : ∀ a0 a1 k, LeO (laws_FnExactMakeEither.f k a0 a1) (laws_FnExactMakeEither.f (k + 1) a0 a1) := by
  intro a0 a1 k
  unfold laws_FnExactMakeEither.f
  repeat' first
      | (with_reducible exact spec_MakeEither.mono _ _ _)
      | (with_reducible exact LeO.refl _)
      | (with_reducible exact LeO.none _)
      | (with_reducible refine LeO.ite ?_ ?_)
      | (with_reducible refine LeO.bind ?_ (fun _ => ?_))
      | exact spec_MakeEither.mono _ _ _
      | exact LeO.none _
      | refine LeO.ite ?_ ?_
      | refine LeO.bind ?_ (fun _ => ?_)
set_option maxHeartbeats 8000000 in
set_option maxRecDepth 100000 in
theorem laws_FnExactMakeEither.calls (k : Nat) (a0 : ByteArray) (a1 : ByteArray) (r : Bool) (w : World) (h : laws_FnExactMakeEither.f k a0 a1 = some r) :
    Calls Try.prog 4 #[.string a0, .string a1] w fun e w' => e = .returned (.bool r) ∧ Below w.heap.size w w' := by
  have HB := Aside0.mk (Below.refl w.heap.size w)
  have H : (if (a0.size : Int) > 1048576 then (some true) else (if (a1.size : Int) > 1048576 then (some true) else ((spec_MakeEither.f k a0 a1).bind fun bt318 => ((impl_MakeEither.f a0 a1).bind fun bt320 => (if bt320.1.toList = bt318.1.toList then (if (bt320.2 != bt318.2) = true then (some false) else (some true)) else (some false)))))) = some r := h
  clear h
  by_cases c3 : (a0.size : Int) > 1048576
  · rw [if_pos c3] at H
    have c3b0 : decide (1048576 < (a0.size : Int)) = true := decide_eq_true c3
    have c3b1 : decide (1048576 < a0.size) = true := decide_eq_true (by omega)
    clear c3
    obtain rfl := Option.some.inj H
    go_enter Try.func4, Try.ntmps4
    go_wp2
    go_ret
    exact ⟨by first | rfl | (simp [errW_none, errW_some] <;> rfl) | (simp [*, errW_none, errW_some] <;> rfl) | (simp [errW_none, errW_some]; exact ⟨rfl, rfl⟩), by repeat (first | (with_reducible first | exact HB.out | apply below_alloc | apply pw_below_drewN | apply below_drew1) | exact HB.out)⟩
  · rw [if_neg c3] at H
    have c3b0 : decide (1048576 < (a0.size : Int)) = false := decide_eq_false c3
    have c3b1 : decide (1048576 < a0.size) = false := decide_eq_false (by omega)
    clear c3
    by_cases c4 : (a1.size : Int) > 1048576
    · rw [if_pos c4] at H
      have c4b0 : decide (1048576 < (a1.size : Int)) = true := decide_eq_true c4
      have c4b1 : decide (1048576 < a1.size) = true := decide_eq_true (by omega)
      clear c4
      obtain rfl := Option.some.inj H
      go_enter Try.func4, Try.ntmps4
      go_wp2
      go_ret
      exact ⟨by first | rfl | (simp [errW_none, errW_some] <;> rfl) | (simp [*, errW_none, errW_some] <;> rfl) | (simp [errW_none, errW_some]; exact ⟨rfl, rfl⟩), by repeat (first | (with_reducible first | exact HB.out | apply below_alloc | apply pw_below_drewN | apply below_drew1) | exact HB.out)⟩
    · rw [if_neg c4] at H
      have c4b0 : decide (1048576 < (a1.size : Int)) = false := decide_eq_false c4
      have c4b1 : decide (1048576 < a1.size) = false := decide_eq_false (by omega)
      clear c4
      replace H := Option.bind_eq_some_iff.mp H
      obtain ⟨⟨t318, t319⟩, A50, H⟩ := H
      replace H : ((impl_MakeEither.f a0 a1).bind fun bt320 => (if bt320.1.toList = t318.toList then (if (bt320.2 != t319) = true then (some false) else (some true)) else (some false))) = some r := H
      have A5 := Aside0.mk A50
      clear A50
      replace H := Option.bind_eq_some_iff.mp H
      obtain ⟨⟨t320, t321⟩, A60, H⟩ := H
      replace H : (if t320.toList = t318.toList then (if (t321 != t319) = true then (some false) else (some true)) else (some false)) = some r := H
      have A6 := Aside0.mk A60
      clear A60
      by_cases c7 : t320.toList = t318.toList
      · rw [if_pos c7] at H
        have c7b0 : (t320.toList == t318.toList) = true := beq_iff_eq.mpr c7
        have c7b1 : (t320.toList != t318.toList) = false := bne_eq_false_iff_eq.mpr c7
        clear c7
        by_cases c8 : (t321 != t319) = true
        · rw [if_pos c8] at H
          have c8b0 : (t321 != t319) = true := c8
          (try (have c8b1 : decide (t321 = t319) = false := by simpa using c8))
          (try (have c8b2 : (t321 == t319) = false := by simpa using c8))
          (try (have c8b3 : ¬ (t321 = t319) := by simpa using c8))
          clear c8
          obtain rfl := Option.some.inj H
          go_enter Try.func4, Try.ntmps4
          go_wp2_with (first | ((with_reducible refine gate_callee (f := 11) rfl ?_); refine goesL_ (some 18) rfl rfl Try.func11 (by kernel_rfl) rfl #[.string a0, .string a1] rfl (by (try simp only [List.map_toArray, List.map_cons, List.map_nil]); first | done | rfl | (simp only [List.length_drop, List.length_take]; rfl)) ?_; (with_reducible refine (spec_MakeEither.calls k a0 a1 t318 t319 _ A5.out).mono ?_); rintro e w9 ⟨rfl, hb⟩; refine ⟨_, rfl, ?_⟩; have n0_ := Aside0.mk (below_step (by repeat (first | (with_reducible first | exact HB.out | apply below_alloc | apply pw_below_drewN | apply below_drew1) | exact HB.out)) hb); clear HB; have HB := n0_; clear n0_; (try clear hb); (try clear hb2); (try clear hk); (try clear hi)) | ((with_reducible refine gate_callee (f := 12) rfl ?_); refine goesL_ (some 24) rfl rfl Try.func12 (by kernel_rfl) rfl #[.string a0, .string a1] rfl (by (try simp only [List.map_toArray, List.map_cons, List.map_nil]); first | done | rfl | (simp only [List.length_drop, List.length_take]; rfl)) ?_; (with_reducible refine (impl_MakeEither.calls a0 a1 t320 t321 _ A6.out).mono ?_); rintro e w10 ⟨rfl, hb⟩; refine ⟨_, rfl, ?_⟩; have n0_ := Aside0.mk (below_step (by repeat (first | (with_reducible first | exact HB.out | apply below_alloc | apply pw_below_drewN | apply below_drew1) | exact HB.out)) hb); clear HB; have HB := n0_; clear n0_; (try clear hb); (try clear hb2); (try clear hk); (try clear hi)))
          go_ret
          exact ⟨by first | rfl | (simp [errW_none, errW_some] <;> rfl) | (simp [*, errW_none, errW_some] <;> rfl) | (simp [errW_none, errW_some]; exact ⟨rfl, rfl⟩), by repeat (first | (with_reducible first | exact HB.out | apply below_alloc | apply pw_below_drewN | apply below_drew1) | exact HB.out)⟩
        · rw [if_neg c8] at H
          have c8b0 : (t321 != t319) = false := by simpa using c8
          (try (have c8b1 : decide (t321 = t319) = true := by simpa using c8))
          (try (have c8b2 : (t321 == t319) = true := by simpa using c8))
          clear c8
          obtain rfl := Option.some.inj H
          go_enter Try.func4, Try.ntmps4
          go_wp2_with (first | ((with_reducible refine gate_callee (f := 11) rfl ?_); refine goesL_ (some 18) rfl rfl Try.func11 (by kernel_rfl) rfl #[.string a0, .string a1] rfl (by (try simp only [List.map_toArray, List.map_cons, List.map_nil]); first | done | rfl | (simp only [List.length_drop, List.length_take]; rfl)) ?_; (with_reducible refine (spec_MakeEither.calls k a0 a1 t318 t319 _ A5.out).mono ?_); rintro e w11 ⟨rfl, hb⟩; refine ⟨_, rfl, ?_⟩; have n0_ := Aside0.mk (below_step (by repeat (first | (with_reducible first | exact HB.out | apply below_alloc | apply pw_below_drewN | apply below_drew1) | exact HB.out)) hb); clear HB; have HB := n0_; clear n0_; (try clear hb); (try clear hb2); (try clear hk); (try clear hi)) | ((with_reducible refine gate_callee (f := 12) rfl ?_); refine goesL_ (some 24) rfl rfl Try.func12 (by kernel_rfl) rfl #[.string a0, .string a1] rfl (by (try simp only [List.map_toArray, List.map_cons, List.map_nil]); first | done | rfl | (simp only [List.length_drop, List.length_take]; rfl)) ?_; (with_reducible refine (impl_MakeEither.calls a0 a1 t320 t321 _ A6.out).mono ?_); rintro e w12 ⟨rfl, hb⟩; refine ⟨_, rfl, ?_⟩; have n0_ := Aside0.mk (below_step (by repeat (first | (with_reducible first | exact HB.out | apply below_alloc | apply pw_below_drewN | apply below_drew1) | exact HB.out)) hb); clear HB; have HB := n0_; clear n0_; (try clear hb); (try clear hb2); (try clear hk); (try clear hi)))
          go_ret
          exact ⟨by first | rfl | (simp [errW_none, errW_some] <;> rfl) | (simp [*, errW_none, errW_some] <;> rfl) | (simp [errW_none, errW_some]; exact ⟨rfl, rfl⟩), by repeat (first | (with_reducible first | exact HB.out | apply below_alloc | apply pw_below_drewN | apply below_drew1) | exact HB.out)⟩
      · rw [if_neg c7] at H
        have c7b0 : (t320.toList == t318.toList) = false := beq_eq_false_iff_ne.mpr c7
        have c7b1 : (t320.toList != t318.toList) = true := bne_iff_ne.mpr c7
        obtain rfl := Option.some.inj H
        go_enter Try.func4, Try.ntmps4
        go_wp2_with (first | ((with_reducible refine gate_callee (f := 11) rfl ?_); refine goesL_ (some 18) rfl rfl Try.func11 (by kernel_rfl) rfl #[.string a0, .string a1] rfl (by (try simp only [List.map_toArray, List.map_cons, List.map_nil]); first | done | rfl | (simp only [List.length_drop, List.length_take]; rfl)) ?_; (with_reducible refine (spec_MakeEither.calls k a0 a1 t318 t319 _ A5.out).mono ?_); rintro e w13 ⟨rfl, hb⟩; refine ⟨_, rfl, ?_⟩; have n0_ := Aside0.mk (below_step (by repeat (first | (with_reducible first | exact HB.out | apply below_alloc | apply pw_below_drewN | apply below_drew1) | exact HB.out)) hb); clear HB; have HB := n0_; clear n0_; (try clear hb); (try clear hb2); (try clear hk); (try clear hi)) | ((with_reducible refine gate_callee (f := 12) rfl ?_); refine goesL_ (some 24) rfl rfl Try.func12 (by kernel_rfl) rfl #[.string a0, .string a1] rfl (by (try simp only [List.map_toArray, List.map_cons, List.map_nil]); first | done | rfl | (simp only [List.length_drop, List.length_take]; rfl)) ?_; (with_reducible refine (impl_MakeEither.calls a0 a1 t320 t321 _ A6.out).mono ?_); rintro e w14 ⟨rfl, hb⟩; refine ⟨_, rfl, ?_⟩; have n0_ := Aside0.mk (below_step (by repeat (first | (with_reducible first | exact HB.out | apply below_alloc | apply pw_below_drewN | apply below_drew1) | exact HB.out)) hb); clear HB; have HB := n0_; clear n0_; (try clear hb); (try clear hb2); (try clear hk); (try clear hi)))
        go_ret
        exact ⟨by first | rfl | (simp [errW_none, errW_some] <;> rfl) | (simp [*, errW_none, errW_some] <;> rfl) | (simp [errW_none, errW_some]; exact ⟨rfl, rfl⟩), by repeat (first | (with_reducible first | exact HB.out | apply below_alloc | apply pw_below_drewN | apply below_drew1) | exact HB.out)⟩

/-- THE ONE PURE STATEMENT of laws_FnExactMakeEither: yours. -/
noncomputable def laws_FnExactMakeEither.Pure : Prop := ∀ (a0 : ByteArray) (a1 : ByteArray), a0.size ≤ 140737488351232 → a1.size ≤ 140737488351232 → ∃ k, laws_FnExactMakeEither.f k a0 a1 = some true
theorem laws_FnExactMakeEither.walk (P : laws_FnExactMakeEither.Pure) (a0 : ByteArray) (a1 : ByteArray) (w : World) (w0 : a0.size ≤ 140737488351232) (w1 : a1.size ≤ 140737488351232) :
    Calls Try.prog 4 #[.string a0, .string a1] w fun e w' => e = .returned (.bool true) ∧ Below w.heap.size w w' := by
  obtain ⟨k, h⟩ := P a0 a1 w0 w1
  refine (laws_FnExactMakeEither.calls k a0 a1 true w h).mono ?_
  rintro e w' ⟨rfl, hd⟩
  exact ⟨rfl, hd⟩

end Go.Proofs.Ytgheopbdmijlkaa.P

-- spec.MakeEither.
namespace Go.Proofs.Ytgheopbdmijlkaa.P
open Go.RowKit Go.Proofs.YtgheopbdmijlkaaW.PrintWords Go.Proofs.YtgheopbdmijlkaaW.PrintLast Go.Proofs.YtgheopbdmijlkaaW.PrintMore
set_option linter.unusedVariables false
set_option linter.unusedSimpArgs false

theorem tells_either : Tells 14 (fun x y => x || y) := fun x y => by cases x <;> cases y <;> decide +kernel
theorem smakeEither_f (s t : ByteArray) (hs : s.size ≤ 70368744177664) (ht : t.size ≤ 70368744177664) : Ev (fun k => spec_MakeEither.f k s t) (two (fun x y => x || y) (chrs s) (chrs t)) :=
  Ev.congr (fun k => rfl) (Ev.bind (two_f 14 _ tells_either s t hs ht) (Ev.now _))
end Go.Proofs.Ytgheopbdmijlkaa.P

-- For all arguments the law FnExactMakeEither holds.
namespace Go.Proofs.Ytgheopbdmijlkaa.P
open Go.RowKit Go.Proofs.YtgheopbdmijlkaaW.PrintWords Go.Proofs.YtgheopbdmijlkaaW.PrintLast Go.Proofs.YtgheopbdmijlkaaW.PrintMore
set_option linter.unusedVariables false
set_option linter.unusedSimpArgs false

theorem lawExactMakeEither_ev (s t : ByteArray) : Ev (fun k => laws_FnExactMakeEither.f k s t) true := by
  by_cases hl : (s.size : Int) > 1048576
  · refine Ev.congr (f := fun _ => some true) (fun k => ?_) (Ev.now _)
    unfold laws_FnExactMakeEither.f; rw [if_pos hl]
  · by_cases ht : (t.size : Int) > 1048576
    · refine Ev.congr (f := fun _ => some true) (fun k => ?_) (Ev.now _)
      unfold laws_FnExactMakeEither.f; rw [if_neg hl, if_pos ht]
    · have hs : s.size ≤ 70368744177664 := by omega
      have hs2 : t.size ≤ 70368744177664 := by omega
      refine Ev.congr (f := fun k => (spec_MakeEither.f k s t).bind fun bt402 => ((impl_MakeEither.f s t).bind fun bt404 => (if bt404.1.toList = bt402.1.toList then (if (bt404.2 != bt402.2) = true then (some false) else (some true)) else (some false)))) (fun k => ?_) (Ev.bind (smakeEither_f s t hs hs2) ?_)
      · unfold laws_FnExactMakeEither.f; rw [if_neg hl, if_neg ht]
      · rw [makeEither_f s t hs hs2]
        simp only [Option.bind_some, if_true, bne_self_eq_false, Bool.false_eq_true, if_false]
        exact Ev.now _
theorem lawExactMakeEither_pure : laws_FnExactMakeEither.Pure := fun s t _ _ => (lawExactMakeEither_ev s t).rounds
end Go.Proofs.Ytgheopbdmijlkaa.P

-- For all arguments the law FnExactMakeEither holds.
namespace Go.Proofs.Ytgheopbdmijlkaa.Pure
theorem FnExactMakeEither : Go.Proofs.Ytgheopbdmijlkaa.P.laws_FnExactMakeEither.Pure := Go.Proofs.Ytgheopbdmijlkaa.P.lawExactMakeEither_pure
end Go.Proofs.Ytgheopbdmijlkaa.Pure
