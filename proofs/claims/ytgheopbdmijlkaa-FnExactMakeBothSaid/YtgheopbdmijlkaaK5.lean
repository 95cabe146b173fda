/- What these laws reach, joined by a program of this session: contracts (written by that program over the kit's print, or by hand) and plain lemmas. -/
import Derived.Test.YtgheopbdmijlkaaK1
import Derived.Test.YtgheopbdmijlkaaK3
import Derived.Test.YtgheopbdmijlkaaK4
-- impl.MakeBoth.
namespace Go.Proofs.Ytgheopbdmijlkaa.P
open Go.RowKit Go.Proofs.YtgheopbdmijlkaaW.PrintWords Go.Proofs.YtgheopbdmijlkaaW.PrintLast Go.Proofs.YtgheopbdmijlkaaW.PrintMore
set_option linter.unusedVariables false
set_option linter.unusedSimpArgs false

noncomputable def impl_MakeBoth.f (s t : ByteArray) : Option (ByteArray × Bool) := if s.size ≤ 70368744177664 ∧ t.size ≤ 70368744177664 then some (two (fun x y => x && y) (chrs s) (chrs t)) else none
theorem makeBoth_f (s t : ByteArray) (hs : s.size ≤ 70368744177664) (ht : t.size ≤ 70368744177664) : impl_MakeBoth.f s t = some (two (fun x y => x && y) (chrs s) (chrs t)) := by unfold impl_MakeBoth.f; rw [if_pos ⟨hs, ht⟩]

set_option maxHeartbeats 8000000 in
theorem bothq_q_calls (p q : Bool) (W : World) :
    Calls Try.prog 26 #[.bool p, .bool q] W fun e w' => e = .returned (.bool (p && q)) ∧ Below W.heap.size W w' := by
  cases p <;> cases q
  all_goals
    go_enter Try.func26, Try.ntmps26
    go_wp2
    go_ret
    exact ⟨rfl, Below.refl _ _⟩

set_option maxHeartbeats 8000000 in
set_option maxRecDepth 100000 in
theorem impl_MakeBoth.calls (a0 a1 : ByteArray) (r1 : ByteArray) (r2 : Bool) (w : World) (h : impl_MakeBoth.f a0 a1 = some (r1, r2)) :
    Calls Try.prog 10 #[.string a0, .string a1] w fun e w' => e = .returned (.tuple #[.string r1, .bool r2]) ∧ Below w.heap.size w w' := by
  unfold impl_MakeBoth.f at h
  split at h
  · rename_i hs
    simp only [Option.some.injEq] at h
    have eg : ∀ args w, (callFunc 26 args).run Try.prog w = .ok (.enter 26 args) w := enters_of Try.func26 (by kernel_rfl) rfl
    have hx : ∀ w1 : World, Calls Try.prog 25 #[.string a0, .string a1, .func (.func 26) #[] #[]] w1 fun e w' => e = .returned (.tuple #[.string r1, .bool r2]) ∧ Below w1.heap.size w1 w' := by
      intro w1
      have := pair_calls a0 a1 hs.1 hs.2 26 #[] (fun x y => x && y) w1 eg (fun W p q _ => bothq_q_calls p q W)
      rw [h] at this
      exact this
    have HX := Aside0.mk hx
    clear hx h hs eg
    go_enter Try.func10, Try.ntmps10
    go_wp2_with (go_at_call 25; refine (HX.out _).mono ?_; rintro e w2 ⟨rfl, hb2⟩)
    go_ret2
    exact ⟨rfl, hb2⟩
  · cases h
end Go.Proofs.Ytgheopbdmijlkaa.P

namespace Go.Proofs.Ytgheopbdmijlkaa.P
open Go.RowKit Go.Proofs.YtgheopbdmijlkaaW.PrintWords Go.Proofs.YtgheopbdmijlkaaW.PrintLast Go.Proofs.YtgheopbdmijlkaaW.PrintMore
attribute [local go_sem] max2_int min2_int max_two min_two max_three min_three max_four min_four   -- for this text's walks alone
set_option linter.unusedVariables false
set_option linter.unusedSimpArgs false

/-! ### spec_MakeBoth: function 9 -/
def spec_MakeBoth.f (k : Nat) (a0 : ByteArray) (a1 : ByteArray) : Option (ByteArray × Bool) := (spec_l2Two.f k a0 a1 8).bind fun bt241 => (some (bt241.1, bt241.2))
theorem spec_MakeBoth.mono : ∀ a0 a1 k, LeO (spec_MakeBoth.f k a0 a1) (spec_MakeBoth.f (k + 1) a0 a1) := by
  intro a0 a1 k
  unfold spec_MakeBoth.f
  repeat' first
      | (with_reducible exact spec_l2Two.mono _ _ _ _)
      | (with_reducible exact LeO.refl _)
      | (with_reducible exact LeO.none _)
      | (with_reducible refine LeO.ite ?_ ?_)
      | (with_reducible refine LeO.bind ?_ (fun _ => ?_))
      | exact spec_l2Two.mono _ _ _ _
      | exact LeO.none _
      | refine LeO.ite ?_ ?_
      | refine LeO.bind ?_ (fun _ => ?_)
set_option maxHeartbeats 8000000 in
set_option maxRecDepth 100000 in
theorem spec_MakeBoth.calls (k : Nat) (a0 : ByteArray) (a1 : ByteArray) (r1 : ByteArray) (r2 : Bool) (w : World) (h : spec_MakeBoth.f k a0 a1 = some (r1, r2)) :
    Calls Try.prog 9 #[.string a0, .string a1] w fun e w' => e = .returned (.tuple #[.string r1, .bool r2]) ∧ Below w.heap.size w w' := by
  have HB := Aside0.mk (Below.refl w.heap.size w)
  have H : ((spec_l2Two.f k a0 a1 8).bind fun bt241 => (some (bt241.1, bt241.2))) = some (r1, r2) := h
  clear h
  replace H := Option.bind_eq_some_iff.mp H
  obtain ⟨⟨t241, t242⟩, A30, H⟩ := H
  replace H : (some (t241, t242)) = some (r1, r2) := H
  have A3 := Aside0.mk A30
  clear A30
  simp only [Option.some.injEq, Prod.mk.injEq] at H
  obtain ⟨rfl, rfl⟩ := H
  go_enter Try.func9, Try.ntmps9
  go_wp2_with (first | ((with_reducible refine gate_callee (f := 24) rfl ?_); refine goesL_ (some 8) rfl rfl Try.func24 (by kernel_rfl) rfl #[.string a0, .string a1, .int .i64 8] rfl (by (try simp only [List.map_toArray, List.map_cons, List.map_nil]); first | done | rfl | (simp only [List.length_drop, List.length_take]; rfl)) ?_; (with_reducible refine (spec_l2Two.calls k a0 a1 8 t241 t242 _ A3.out).mono ?_); rintro e w4 ⟨rfl, hb⟩; refine ⟨_, rfl, ?_⟩; have n0_ := Aside0.mk (below_step (by repeat (first | (with_reducible first | exact HB.out | apply below_alloc | apply pw_below_drewN | apply below_drew1) | exact HB.out)) hb); clear HB; have HB := n0_; clear n0_; (try clear hb); (try clear hb2); (try clear hk); (try clear hi)))
  go_ret2
  exact ⟨by first | rfl | (simp [errW_none, errW_some] <;> rfl) | (simp [*, errW_none, errW_some] <;> rfl) | (simp [errW_none, errW_some]; exact ⟨rfl, rfl⟩), by repeat (first | (with_reducible first | exact HB.out | apply below_alloc | apply pw_below_drewN | apply below_drew1) | exact HB.out)⟩

end Go.Proofs.Ytgheopbdmijlkaa.P

namespace Go.Proofs.Ytgheopbdmijlkaa.P
open Go.RowKit Go.Proofs.YtgheopbdmijlkaaW.PrintWords Go.Proofs.YtgheopbdmijlkaaW.PrintLast Go.Proofs.YtgheopbdmijlkaaW.PrintMore
attribute [local go_sem] max2_int min2_int max_two min_two max_three min_three max_four min_four   -- for this text's walks alone
set_option linter.unusedVariables false
set_option linter.unusedSimpArgs false

/-! ### laws_FnExactMakeBoth: function 3 -/
noncomputable def laws_FnExactMakeBoth.f (k : Nat) (a0 : ByteArray) (a1 : ByteArray) : Option (Bool) := if (a0.size : Int) > 1048576 then (some true) else (if (a1.size : Int) > 1048576 then (some true) else ((spec_MakeBoth.f k a0 a1).bind fun bt312 => ((impl_MakeBoth.f a0 a1).bind fun bt314 => (if bt314.1.toList = bt312.1.toList then (if (bt314.2 != bt312.2) = true then (some false) else (some true)) else (some false)))))
theorem laws_FnExactMakeBoth.mono : ∀ a0 a1 k, LeO (laws_FnExactMakeBoth.f k a0 a1) (laws_FnExactMakeBoth.f (k + 1) a0 a1) := by
  intro a0 a1 k
  unfold laws_FnExactMakeBoth.f
  repeat' first
      | (with_reducible exact spec_MakeBoth.mono _ _ _)
      | (with_reducible exact LeO.refl _)
      | (with_reducible exact LeO.none _)
      | (with_reducible refine LeO.ite ?_ ?_)
      | (with_reducible refine LeO.bind ?_ (fun _ => ?_))
      | exact spec_MakeBoth.mono _ _ _
      | exact LeO.none _
      | refine LeO.ite ?_ ?_
      | refine LeO.bind ?_ (fun _ => ?_)
set_option maxHeartbeats 8000000 in
set_option maxRecDepth 100000 in
theorem laws_FnExactMakeBoth.calls (k : Nat) (a0 : ByteArray) (a1 : ByteArray) (r : Bool) (w : World) (h : laws_FnExactMakeBoth.f k a0 a1 = some r) :
    Calls Try.prog 3 #[.string a0, .string a1] w fun e w' => e = .returned (.bool r) ∧ Below w.heap.size w w' := by
  have HB := Aside0.mk (Below.refl w.heap.size w)
  have H : (if (a0.size : Int) > 1048576 then (some true) else (if (a1.size : Int) > 1048576 then (some true) else ((spec_MakeBoth.f k a0 a1).bind fun bt312 => ((impl_MakeBoth.f a0 a1).bind fun bt314 => (if bt314.1.toList = bt312.1.toList then (if (bt314.2 != bt312.2) = true then (some false) else (some true)) else (some false)))))) = some r := h
  clear h
  by_cases c3 : (a0.size : Int) > 1048576
  · rw [if_pos c3] at H
    have c3b0 : decide (1048576 < (a0.size : Int)) = true := decide_eq_true c3
    have c3b1 : decide (1048576 < a0.size) = true := decide_eq_true (by omega)
    clear c3
    obtain rfl := Option.some.inj H
    go_enter Try.func3, Try.ntmps3
    go_wp2
    go_ret
    exact ⟨by first | rfl | (simp [errW_none, errW_some] <;> rfl) | (simp [*, errW_none, errW_some] <;> rfl) | (simp [errW_none, errW_some]; exact ⟨rfl, rfl⟩), by repeat (first | (with_reducible first | exact HB.out | apply below_alloc | apply pw_below_drewN | apply below_drew1) | exact HB.out)⟩
  · rw [if_neg c3] at H
    have c3b0 : decide (1048576 < (a0.size : Int)) = false := decide_eq_false c3
    have c3b1 : decide (1048576 < a0.size) = false := decide_eq_false (by omega)
    clear c3
    by_cases c4 : (a1.size : Int) > 1048576
    · rw [if_pos c4] at H
      have c4b0 : decide (1048576 < (a1.size : Int)) = true := decide_eq_true c4
      have c4b1 : decide (1048576 < a1.size) = true := decide_eq_true (by omega)
      clear c4
      obtain rfl := Option.some.inj H
      go_enter Try.func3, Try.ntmps3
      go_wp2
      go_ret
      exact ⟨by first | rfl | (simp [errW_none, errW_some] <;> rfl) | (simp [*, errW_none, errW_some] <;> rfl) | (simp [errW_none, errW_some]; exact ⟨rfl, rfl⟩), by repeat (first | (with_reducible first | exact HB.out | apply below_alloc | apply pw_below_drewN | apply below_drew1) | exact HB.out)⟩
    · rw [if_neg c4] at H
      have c4b0 : decide (1048576 < (a1.size : Int)) = false := decide_eq_false c4
      have c4b1 : decide (1048576 < a1.size) = false := decide_eq_false (by omega)
      clear c4
      replace H := Option.bind_eq_some_iff.mp H
      obtain ⟨⟨t312, t313⟩, A50, H⟩ := H
      replace H : ((impl_MakeBoth.f a0 a1).bind fun bt314 => (if bt314.1.toList = t312.toList then (if (bt314.2 != t313) = true then (some false) else (some true)) else (some false))) = some r := H
      have A5 := Aside0.mk A50
      clear A50
      replace H := Option.bind_eq_some_iff.mp H
      obtain ⟨⟨t314, t315⟩, A60, H⟩ := H
      replace H : (if t314.toList = t312.toList then (if (t315 != t313) = true then (some false) else (some true)) else (some false)) = some r := H
      have A6 := Aside0.mk A60
      clear A60
      by_cases c7 : t314.toList = t312.toList
      · rw [if_pos c7] at H
        have c7b0 : (t314.toList == t312.toList) = true := beq_iff_eq.mpr c7
        have c7b1 : (t314.toList != t312.toList) = false := bne_eq_false_iff_eq.mpr c7
        clear c7
        by_cases c8 : (t315 != t313) = true
        · rw [if_pos c8] at H
          have c8b0 : (t315 != t313) = true := c8
          (try (have c8b1 : decide (t315 = t313) = false := by simpa using c8))
          (try (have c8b2 : (t315 == t313) = false := by simpa using c8))
          (try (have c8b3 : ¬ (t315 = t313) := by simpa using c8))
          clear c8
          obtain rfl := Option.some.inj H
          go_enter Try.func3, Try.ntmps3
          go_wp2_with (first | ((with_reducible refine gate_callee (f := 9) rfl ?_); refine goesL_ (some 18) rfl rfl Try.func9 (by kernel_rfl) rfl #[.string a0, .string a1] rfl (by (try simp only [List.map_toArray, List.map_cons, List.map_nil]); first | done | rfl | (simp only [List.length_drop, List.length_take]; rfl)) ?_; (with_reducible refine (spec_MakeBoth.calls k a0 a1 t312 t313 _ A5.out).mono ?_); rintro e w9 ⟨rfl, hb⟩; refine ⟨_, rfl, ?_⟩; have n0_ := Aside0.mk (below_step (by repeat (first | (with_reducible first | exact HB.out | apply below_alloc | apply pw_below_drewN | apply below_drew1) | exact HB.out)) hb); clear HB; have HB := n0_; clear n0_; (try clear hb); (try clear hb2); (try clear hk); (try clear hi)) | ((with_reducible refine gate_callee (f := 10) rfl ?_); refine goesL_ (some 24) rfl rfl Try.func10 (by kernel_rfl) rfl #[.string a0, .string a1] rfl (by (try simp only [List.map_toArray, List.map_cons, List.map_nil]); first | done | rfl | (simp only [List.length_drop, List.length_take]; rfl)) ?_; (with_reducible refine (impl_MakeBoth.calls a0 a1 t314 t315 _ A6.out).mono ?_); rintro e w10 ⟨rfl, hb⟩; refine ⟨_, rfl, ?_⟩; have n0_ := Aside0.mk (below_step (by repeat (first | (with_reducible first | exact HB.out | apply below_alloc | apply pw_below_drewN | apply below_drew1) | exact HB.out)) hb); clear HB; have HB := n0_; clear n0_; (try clear hb); (try clear hb2); (try clear hk); (try clear hi)))
          go_ret
          exact ⟨by first | rfl | (simp [errW_none, errW_some] <;> rfl) | (simp [*, errW_none, errW_some] <;> rfl) | (simp [errW_none, errW_some]; exact ⟨rfl, rfl⟩), by repeat (first | (with_reducible first | exact HB.out | apply below_alloc | apply pw_below_drewN | apply below_drew1) | exact HB.out)⟩
        · rw [if_neg c8] at H
          have c8b0 : (t315 != t313) = false := by simpa using c8
          (try (have c8b1 : decide (t315 = t313) = true := by simpa using c8))
          (try (have c8b2 : (t315 == t313) = true := by simpa using c8))
          clear c8
          obtain rfl := Option.some.inj H
          go_enter Try.func3, Try.ntmps3
          go_wp2_with (first | ((with_reducible refine gate_callee (f := 9) rfl ?_); refine goesL_ (some 18) rfl rfl Try.func9 (by kernel_rfl) rfl #[.string a0, .string a1] rfl (by (try simp only [List.map_toArray, List.map_cons, List.map_nil]); first | done | rfl | (simp only [List.length_drop, List.length_take]; rfl)) ?_; (with_reducible refine (spec_MakeBoth.calls k a0 a1 t312 t313 _ A5.out).mono ?_); rintro e w11 ⟨rfl, hb⟩; refine ⟨_, rfl, ?_⟩; have n0_ := Aside0.mk (below_step (by repeat (first | (with_reducible first | exact HB.out | apply below_alloc | apply pw_below_drewN | apply below_drew1) | exact HB.out)) hb); clear HB; have HB := n0_; clear n0_; (try clear hb); (try clear hb2); (try clear hk); (try clear hi)) | ((with_reducible refine gate_callee (f := 10) rfl ?_); refine goesL_ (some 24) rfl rfl Try.func10 (by kernel_rfl) rfl #[.string a0, .string a1] rfl (by (try simp only [List.map_toArray, List.map_cons, List.map_nil]); first | done | rfl | (simp only [List.length_drop, List.length_take]; rfl)) ?_; (with_reducible refine (impl_MakeBoth.calls a0 a1 t314 t315 _ A6.out).mono ?_); rintro e w12 ⟨rfl, hb⟩; refine ⟨_, rfl, ?_⟩; have n0_ := Aside0.mk (below_step (by repeat (first | (with_reducible first | exact HB.out | apply below_alloc | apply pw_below_drewN | apply below_drew1) | exact HB.out)) hb); clear HB; have HB := n0_; clear n0_; (try clear hb); (try clear hb2); (try clear hk); (try clear hi)))
          go_ret
          exact ⟨by first | rfl | (simp [errW_none, errW_some] <;> rfl) | (simp [*, errW_none, errW_some] <;> rfl) | (simp [errW_none, errW_some]; exact ⟨rfl, rfl⟩), by repeat (first | (with_reducible first | exact HB.out | apply below_alloc | apply pw_below_drewN | apply below_drew1) | exact HB.out)⟩
      · rw [if_neg c7] at H
        have c7b0 : (t314.toList == t312.toList) = false := beq_eq_false_iff_ne.mpr c7
        have c7b1 : (t314.toList != t312.toList) = true := bne_iff_ne.mpr c7
        obtain rfl := Option.some.inj H
        go_enter Try.func3, Try.ntmps3
        go_wp2_with (first | ((with_reducible refine gate_callee (f := 9) rfl ?_); refine goesL_ (some 18) rfl rfl Try.func9 (by kernel_rfl) rfl #[.string a0, .string a1] rfl (by (try simp only [List.map_toArray, List.map_cons, List.map_nil]); first | done | rfl | (simp only [List.length_drop, List.length_take]; rfl)) ?_; (with_reducible refine (spec_MakeBoth.calls k a0 a1 t312 t313 _ A5.out).mono ?_); rintro e w13 ⟨rfl, hb⟩; refine ⟨_, rfl, ?_⟩; have n0_ := Aside0.mk (below_step (by repeat (first | (with_reducible first | exact HB.out | apply below_alloc | apply pw_below_drewN | apply below_drew1) | exact HB.out)) hb); clear HB; have HB := n0_; clear n0_; (try clear hb); (try clear hb2); (try clear hk); (try clear hi)) | ((with_reducible refine gate_callee (f := 10) rfl ?_); refine goesL_ (some 24) rfl rfl Try.func10 (by kernel_rfl) rfl #[.string a0, .string a1] rfl (by (try simp only [List.map_toArray, List.map_cons, List.map_nil]); first | done | rfl | (simp only [List.length_drop, List.length_take]; rfl)) ?_; (with_reducible refine (impl_MakeBoth.calls a0 a1 t314 t315 _ A6.out).mono ?_); rintro e w14 ⟨rfl, hb⟩; refine ⟨_, rfl, ?_⟩; have n0_ := Aside0.mk (below_step (by repeat (first | (with_reducible first | exact HB.out | apply below_alloc | apply pw_below_drewN | apply below_drew1) | exact HB.out)) hb); clear HB; have HB := n0_; clear n0_; (try clear hb); (try clear hb2); (try clear hk); (try clear hi)))
        go_ret
        exact ⟨by first | rfl | (simp [errW_none, errW_some] <;> rfl) | (simp [*, errW_none, errW_some] <;> rfl) | (simp [errW_none, errW_some]; exact ⟨rfl, rfl⟩), by repeat (first | (with_reducible first | exact HB.out | apply below_alloc | apply pw_below_drewN | apply below_drew1) | exact HB.out)⟩

/-- THE ONE PURE STATEMENT of laws_FnExactMakeBoth: yours. -/
noncomputable def laws_FnExactMakeBoth.Pure : Prop := ∀ (a0 : ByteArray) (a1 : ByteArray), a0.size ≤ 140737488351232 → a1.size ≤ 140737488351232 → ∃ k, laws_FnExactMakeBoth.f k a0 a1 = some true
theorem laws_FnExactMakeBoth.walk (P : laws_FnExactMakeBoth.Pure) (a0 : ByteArray) (a1 : ByteArray) (w : World) (w0 : a0.size ≤ 140737488351232) (w1 : a1.size ≤ 140737488351232) :
    Calls Try.prog 3 #[.string a0, .string a1] w fun e w' => e = .returned (.bool true) ∧ Below w.heap.size w w' := by
  obtain ⟨k, h⟩ := P a0 a1 w0 w1
  refine (laws_FnExactMakeBoth.calls k a0 a1 true w h).mono ?_
  rintro e w' ⟨rfl, hd⟩
  exact ⟨rfl, hd⟩

end Go.Proofs.Ytgheopbdmijlkaa.P

-- spec.MakeBoth.
namespace Go.Proofs.Ytgheopbdmijlkaa.P
open Go.RowKit Go.Proofs.YtgheopbdmijlkaaW.PrintWords Go.Proofs.YtgheopbdmijlkaaW.PrintLast Go.Proofs.YtgheopbdmijlkaaW.PrintMore
set_option linter.unusedVariables false
set_option linter.unusedSimpArgs false

theorem tells_bothq : Tells 8 (fun x y => x && y) := fun x y => by cases x <;> cases y <;> decide +kernel
theorem smakeBoth_f (s t : ByteArray) (hs : s.size ≤ 70368744177664) (ht : t.size ≤ 70368744177664) : Ev (fun k => spec_MakeBoth.f k s t) (two (fun x y => x && y) (chrs s) (chrs t)) :=
  Ev.congr (fun k => rfl) (Ev.bind (two_f 8 _ tells_bothq s t hs ht) (Ev.now _))
end Go.Proofs.Ytgheopbdmijlkaa.P

-- For all arguments the law FnExactMakeBoth holds.
namespace Go.Proofs.Ytgheopbdmijlkaa.P
open Go.RowKit Go.Proofs.YtgheopbdmijlkaaW.PrintWords Go.Proofs.YtgheopbdmijlkaaW.PrintLast Go.Proofs.YtgheopbdmijlkaaW.PrintMore
set_option linter.unusedVariables false
set_option linter.unusedSimpArgs false

theorem lawExactMakeBoth_ev (s t : ByteArray) : Ev (fun k => laws_FnExactMakeBoth.f k s t) true := by
  by_cases hl : (s.size : Int) > 1048576
  · refine Ev.congr (f := fun _ => some true) (fun k => ?_) (Ev.now _)
    unfold laws_FnExactMakeBoth.f; rw [if_pos hl]
  · by_cases ht : (t.size : Int) > 1048576
    · refine Ev.congr (f := fun _ => some true) (fun k => ?_) (Ev.now _)
      unfold laws_FnExactMakeBoth.f; rw [if_neg hl, if_pos ht]
    · have hs : s.size ≤ 70368744177664 := by omega
      have hs2 : t.size ≤ 70368744177664 := by omega
      refine Ev.congr (f := fun k => (spec_MakeBoth.f k s t).bind fun bt402 => ((impl_MakeBoth.f s t).bind fun bt404 => (if bt404.1.toList = bt402.1.toList then (if (bt404.2 != bt402.2) = true then (some false) else (some true)) else (some false)))) (fun k => ?_) (Ev.bind (smakeBoth_f s t hs hs2) ?_)
      · unfold laws_FnExactMakeBoth.f; rw [if_neg hl, if_neg ht]
      · rw [makeBoth_f s t hs hs2]
        simp only [Option.bind_some, if_true, bne_self_eq_false, Bool.false_eq_true, if_false]
        exact Ev.now _
theorem lawExactMakeBoth_pure : laws_FnExactMakeBoth.Pure := fun s t _ _ => (lawExactMakeBoth_ev s t).rounds
end Go.Proofs.Ytgheopbdmijlkaa.P

-- For all arguments the law FnExactMakeBoth holds.
namespace Go.Proofs.Ytgheopbdmijlkaa.Pure
theorem FnExactMakeBoth : Go.Proofs.Ytgheopbdmijlkaa.P.laws_FnExactMakeBoth.Pure := Go.Proofs.Ytgheopbdmijlkaa.P.lawExactMakeBoth_pure
end Go.Proofs.Ytgheopbdmijlkaa.Pure
