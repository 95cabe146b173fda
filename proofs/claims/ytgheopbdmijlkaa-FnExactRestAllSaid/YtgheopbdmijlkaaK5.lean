/- What these laws reach, joined by a program of this session: contracts (written by that program over the kit's print, or by hand) and plain lemmas. -/
import Derived.Test.YtgheopbdmijlkaaK1
import Derived.Test.YtgheopbdmijlkaaK3
import Derived.Test.YtgheopbdmijlkaaK4
-- impl.RestAll.
namespace Go.Proofs.Ytgheopbdmijlkaa.P
open Go.RowKit Go.Proofs.YtgheopbdmijlkaaW.PrintWords Go.Proofs.YtgheopbdmijlkaaW.PrintLast Go.Proofs.YtgheopbdmijlkaaW.PrintMore
set_option linter.unusedVariables false
set_option linter.unusedSimpArgs false

noncomputable def impl_RestAll.f (s t : ByteArray) : Option (ByteArray × Bool) := if s.size ≤ 70368744177664 ∧ t.size ≤ 70368744177664 then some (rsr (chrs s) (chrs t) true) else none
theorem restAll_f (s t : ByteArray) (hs : s.size ≤ 70368744177664) (ht : t.size ≤ 70368744177664) : impl_RestAll.f s t = some (rsr (chrs s) (chrs t) true) := by unfold impl_RestAll.f; rw [if_pos ⟨hs, ht⟩]

set_option maxHeartbeats 8000000 in
set_option maxRecDepth 100000 in
theorem restAll_q_calls (t r t2 r2 : List Bool) (hr : r ≠ []) (hr2 : r2 ≠ []) (hl : t.length ≤ 60 ∧ r.length ≤ 60) (hl2 : t2.length ≤ 60 ∧ r2.length ≤ 60) (A0 : Option Addr) (c0 : Nat) (A1 : Option Addr) (c1 : Nat) (A2 : Option Addr) (c2 : Nat) (A3 : Option Addr) (c3 n b : Nat) (hn : n ≤ 1000000) (W : World)
    (hC0 : Kd.C Kd.bool W A0 t.length t) (h0 : t.length ≤ c0) (hC1 : Kd.C Kd.bool W A1 r.length r) (h1 : r.length ≤ c1) (hC2 : Kd.C Kd.bool W A2 t2.length t2) (h2 : t2.length ≤ c2) (hC3 : Kd.C Kd.bool W A3 r2.length r2) (h3 : r2.length ≤ c3)
    (hb0 : W.cell? ⟨b, 0, none⟩ = some (.slice A2 t2.length c2)) (hb1 : W.cell? ⟨b, 1, none⟩ = some (.slice A3 r2.length c3)) :
    Calls Try.prog 32 #[.agg #[.slice A0 t.length c0, .slice A1 r.length c1], .int .i64 n, .pointer (some ⟨b, 0, none⟩)] W fun e w' => e = .returned (.bool (qs (hasB t r) (hasB t2 r2) true n)) ∧ Below W.heap.size W w' := by
  obtain ⟨k, hk⟩ := (some_f t r t2 r2 hr hr2 hl.1 hl.2 hl2.1 hl2.2 true n hn).rounds
  have HC := fun (o : Obj) => Aside0.mk (impl_set_some.calls k A0 c0 t A1 c1 r A2 c2 t2 A3 c3 r2 (n : Int) true (qs (hasB t r) (hasB t2 r2) true n) (W.alloc o) (Kd.C_alloc hC0 o) h0 (Kd.C_alloc hC1 o) h1 (Kd.C_alloc hC2 o) h2 (Kd.C_alloc hC3 o) h3 hk)
  have hx0 : ∀ o, (W.alloc o).cell? ⟨b, 0, none⟩ = some (.slice A2 t2.length c2) := fun o => Lib.cell?_alloc_some _ hb0
  have hx1 : ∀ o, (W.alloc o).cell? ⟨b, 1, none⟩ = some (.slice A3 r2.length c3) := fun o => Lib.cell?_alloc_some _ hb1
  have hu := Try.underlying41
  generalize qs (hasB t r) (hasB t2 r2) true n = res at *
  clear hC0 hC1 hC2 hC3 h0 h1 h2 h3 hl hl2 hr hr2 hb0 hb1 hk
  go_enter Try.func32, Try.ntmps32
  go_wp2_with (go_at_call 33; refine (HC _).out.mono ?_; rintro e w' ⟨rfl, hb⟩)
  go_ret
  exact ⟨rfl, below_step (below_alloc (Below.refl _ _) _) hb⟩

set_option maxHeartbeats 8000000 in
set_option maxRecDepth 100000 in
theorem impl_RestAll.calls (a0 a1 : ByteArray) (r1 : ByteArray) (r2 : Bool) (w : World) (h : impl_RestAll.f a0 a1 = some (r1, r2)) :
    Calls Try.prog 16 #[.string a0, .string a1] w fun e w' => e = .returned (.tuple #[.string r1, .bool r2]) ∧ Below w.heap.size w w' := by
  unfold impl_RestAll.f at h
  split at h
  · rename_i hs
    simp only [Option.some.injEq] at h
    obtain ⟨x, y, hev, hxy⟩ := setOf_f a1 hs.2
    obtain ⟨k, hk⟩ := hev.rounds
    have eg : ∀ args w, (callFunc 32 args).run Try.prog w = .ok (.enter 32 args) w := enters_of Try.func32 (by kernel_rfl) rfl
    obtain ⟨bm, hbm⟩ : ∃ bm, (parse (chrs a1)).isSome = bm := ⟨_, rfl⟩
    rw [hbm] at hk
    have hx : ∀ (w1 : World) (b : Nat) (A2 : Option Addr) (c2 : Nat) (A3 : Option Addr) (c3 : Nat), Kd.C Kd.bool w1 A2 x.length x → x.length ≤ c2 → Kd.C Kd.bool w1 A3 y.length y → y.length ≤ c3 → w1.cell? ⟨b, 0, none⟩ = some (.slice A2 x.length c2) → w1.cell? ⟨b, 1, none⟩ = some (.slice A3 y.length c3) → b < w1.heap.size →
        Calls Try.prog 31 #[.string a0, .bool bm, .func (.func 32) #[] #[.pointer (some ⟨b, 0, none⟩)]] w1 fun e w' => e = .returned (.tuple #[.string r1, .bool r2]) ∧ Below w1.heap.size w1 w' := by
      intro w1 b A2 c2 A3 c3 hC2 h2 hC3 h3 hb0 hb1 hlt
      have := single_calls a0 hs.1 bm 32 #[.pointer (some ⟨b, 0, none⟩)] (qs (setf (chrs a0)) (setf (chrs a1)) true) w1 eg
        (fun _ t r hp => by rw [setf_some hp]; exact qs_per (hasB_per t r) _ _)
        (fun hm t r hp W A0 c0 A1 c1 n hW hC0 h0 hC1 h1 hn => by
          have hb := parse_some hp
          rw [← hbm] at hm
          obtain ⟨⟨a, c⟩, hpp⟩ := Option.isSome_iff_exists.1 hm
          obtain ⟨rfl, rfl⟩ := hxy a c hpp
          have hb2 := parse_some hpp
          rw [setf_some hp, setf_some hpp]
          exact restAll_q_calls t r x y hb.2.2 hb2.2.2 ⟨hb.1, hb.2.1⟩ ⟨hb2.1, hb2.2.1⟩ A0 c0 A1 c1 A2 c2 A3 c3 n b (by omega) W hC0 h0 hC1 h1 (Kd.C_below hC2 hW) h2 (Kd.C_below hC3 hW) h3 ((hW.cell (p := ⟨b, 0, none⟩) hlt).trans hb0) ((hW.cell (p := ⟨b, 1, none⟩) hlt).trans hb1))
      unfold rsr at h
      rw [hbm] at h
      rw [h] at this
      exact this
    have HX := Aside0.mk hx
    have HK := fun w => Aside0.mk (impl_setOf.calls k a1 x y bm w hk)
    have hu := Try.underlying41
    clear hx h hs eg hk hev hxy hbm
    go_enter Try.func16, Try.ntmps16
    go_wp2_with (first
      | (go_at_call 30; refine (HK _).out.mono ?_; rintro e w1 ⟨v0_, v1_, rfl, hR0, hR1, hb1⟩; obtain ⟨A0, n0, rfl, hn0, hC0⟩ := Kd.R_reads hR0; obtain ⟨A1, n1, rfl, hn1, hC1⟩ := Kd.R_reads hR1; have C0 := Aside0.mk hC0; have C1 := Aside0.mk hC1; have N0 := Aside0.mk hn0; have N1 := Aside0.mk hn1; clear hR0 hR1 hC0 hC1 hn0 hn1; have HB := Aside0.mk hb1; clear hb1)
      | (go_at_call 31; refine (HX.out _ w1.heap.size A0 n0 A1 n1 (Kd.C_alloc C0.out _) N0.out (Kd.C_alloc C1.out _) N1.out (by simp) (by simp) (by simp)).mono ?_; rintro e w2 ⟨rfl, hb2⟩))
    go_ret2
    exact ⟨rfl, below_step (below_alloc HB.out _) hb2⟩
  · cases h
end Go.Proofs.Ytgheopbdmijlkaa.P

namespace Go.Proofs.Ytgheopbdmijlkaa.P
open Go.RowKit Go.Proofs.YtgheopbdmijlkaaW.PrintWords Go.Proofs.YtgheopbdmijlkaaW.PrintLast Go.Proofs.YtgheopbdmijlkaaW.PrintMore
attribute [local go_sem] max2_int min2_int max_two min_two max_three min_three max_four min_four   -- for this text's walks alone
set_option linter.unusedVariables false
set_option linter.unusedSimpArgs false

/-! ### spec_RestAll: function 15 -/
def spec_RestAll.f (k : Nat) (a0 : ByteArray) (a1 : ByteArray) : Option (ByteArray × Bool) := (spec_l5Quot.f k a0 a1 true).bind fun bt372 => (some (bt372.1, bt372.2))
theorem spec_RestAll.mono : ∀ a0 a1 k, LeO (spec_RestAll.f k a0 a1) (spec_RestAll.f (k + 1) a0 a1) := by
  intro a0 a1 k
  unfold spec_RestAll.f
  repeat' first
      | (with_reducible exact spec_l5Quot.mono _ _ _ _)
      | (with_reducible exact LeO.refl _)
      | (with_reducible exact LeO.none _)
      | (with_reducible refine LeO.ite ?_ ?_)
      | (with_reducible refine LeO.bind ?_ (fun _ => ?_))
      | exact spec_l5Quot.mono _ _ _ _
      | exact LeO.none _
      | refine LeO.ite ?_ ?_
      | refine LeO.bind ?_ (fun _ => ?_)
set_option maxHeartbeats 8000000 in
set_option maxRecDepth 100000 in
theorem spec_RestAll.calls (k : Nat) (a0 : ByteArray) (a1 : ByteArray) (r1 : ByteArray) (r2 : Bool) (w : World) (h : spec_RestAll.f k a0 a1 = some (r1, r2)) :
    Calls Try.prog 15 #[.string a0, .string a1] w fun e w' => e = .returned (.tuple #[.string r1, .bool r2]) ∧ Below w.heap.size w w' := by
  have HB := Aside0.mk (Below.refl w.heap.size w)
  have H : ((spec_l5Quot.f k a0 a1 true).bind fun bt372 => (some (bt372.1, bt372.2))) = some (r1, r2) := h
  clear h
  replace H := Option.bind_eq_some_iff.mp H
  obtain ⟨⟨t372, t373⟩, A30, H⟩ := H
  replace H : (some (t372, t373)) = some (r1, r2) := H
  have A3 := Aside0.mk A30
  clear A30
  simp only [Option.some.injEq, Prod.mk.injEq] at H
  obtain ⟨rfl, rfl⟩ := H
  go_enter Try.func15, Try.ntmps15
  go_wp2_with (first | ((with_reducible refine gate_callee (f := 29) rfl ?_); refine goesL_ (some 8) rfl rfl Try.func29 (by kernel_rfl) rfl #[.string a0, .string a1, .bool true] rfl (by (try simp only [List.map_toArray, List.map_cons, List.map_nil]); first | done | rfl | (simp only [List.length_drop, List.length_take]; rfl)) ?_; (with_reducible refine (spec_l5Quot.calls k a0 a1 true t372 t373 _ A3.out).mono ?_); rintro e w4 ⟨rfl, hb⟩; refine ⟨_, rfl, ?_⟩; have n0_ := Aside0.mk (below_step (by repeat (first | (with_reducible first | exact HB.out | apply below_alloc | apply pw_below_drewN | apply below_drew1) | exact HB.out)) hb); clear HB; have HB := n0_; clear n0_; (try clear hb); (try clear hb2); (try clear hk); (try clear hi)))
  go_ret2
  exact ⟨by first | rfl | (simp [errW_none, errW_some] <;> rfl) | (simp [*, errW_none, errW_some] <;> rfl) | (simp [errW_none, errW_some]; exact ⟨rfl, rfl⟩), by repeat (first | (with_reducible first | exact HB.out | apply below_alloc | apply pw_below_drewN | apply below_drew1) | exact HB.out)⟩

end Go.Proofs.Ytgheopbdmijlkaa.P

namespace Go.Proofs.Ytgheopbdmijlkaa.P
open Go.RowKit Go.Proofs.YtgheopbdmijlkaaW.PrintWords Go.Proofs.YtgheopbdmijlkaaW.PrintLast Go.Proofs.YtgheopbdmijlkaaW.PrintMore
attribute [local go_sem] max2_int min2_int max_two min_two max_three min_three max_four min_four   -- for this text's walks alone
set_option linter.unusedVariables false
set_option linter.unusedSimpArgs false

/-! ### laws_FnExactRestAll: function 6 -/
noncomputable def laws_FnExactRestAll.f (k : Nat) (a0 : ByteArray) (a1 : ByteArray) : Option (Bool) := if (a0.size : Int) > 1048576 then (some true) else (if (a1.size : Int) > 1048576 then (some true) else ((spec_RestAll.f k a0 a1).bind fun bt380 => ((impl_RestAll.f a0 a1).bind fun bt382 => (if bt382.1.toList = bt380.1.toList then (if (bt382.2 != bt380.2) = true then (some false) else (some true)) else (some false)))))
theorem laws_FnExactRestAll.mono : ∀ a0 a1 k, LeO (laws_FnExactRestAll.f k a0 a1) (laws_FnExactRestAll.f (k + 1) a0 a1) := by
  intro a0 a1 k
  unfold laws_FnExactRestAll.f
  repeat' first
      | (with_reducible exact spec_RestAll.mono _ _ _)
      | (with_reducible exact LeO.refl _)
      | (with_reducible exact LeO.none _)
      | (with_reducible refine LeO.ite ?_ ?_)
      | (with_reducible refine LeO.bind ?_ (fun _ => ?_))
      | exact spec_RestAll.mono _ _ _
      | exact LeO.none _
      | refine LeO.ite ?_ ?_
      | refine LeO.bind ?_ (fun _ => ?_)
set_option maxHeartbeats 8000000 in
set_option maxRecDepth 100000 in
theorem laws_FnExactRestAll.calls (k : Nat) (a0 : ByteArray) (a1 : ByteArray) (r : Bool) (w : World) (h : laws_FnExactRestAll.f k a0 a1 = some r) :
    Calls Try.prog 6 #[.string a0, .string a1] w fun e w' => e = .returned (.bool r) ∧ Below w.heap.size w w' := by
  have HB := Aside0.mk (Below.refl w.heap.size w)
  have H : (if (a0.size : Int) > 1048576 then (some true) else (if (a1.size : Int) > 1048576 then (some true) else ((spec_RestAll.f k a0 a1).bind fun bt380 => ((impl_RestAll.f a0 a1).bind fun bt382 => (if bt382.1.toList = bt380.1.toList then (if (bt382.2 != bt380.2) = true then (some false) else (some true)) else (some false)))))) = some r := h
  clear h
  by_cases c3 : (a0.size : Int) > 1048576
  · rw [if_pos c3] at H
    have c3b0 : decide (1048576 < (a0.size : Int)) = true := decide_eq_true c3
    have c3b1 : decide (1048576 < a0.size) = true := decide_eq_true (by omega)
    clear c3
    obtain rfl := Option.some.inj H
    go_enter Try.func6, Try.ntmps6
    go_wp2
    go_ret
    exact ⟨by first | rfl | (simp [errW_none, errW_some] <;> rfl) | (simp [*, errW_none, errW_some] <;> rfl) | (simp [errW_none, errW_some]; exact ⟨rfl, rfl⟩), by repeat (first | (with_reducible first | exact HB.out | apply below_alloc | apply pw_below_drewN | apply below_drew1) | exact HB.out)⟩
  · rw [if_neg c3] at H
    have c3b0 : decide (1048576 < (a0.size : Int)) = false := decide_eq_false c3
    have c3b1 : decide (1048576 < a0.size) = false := decide_eq_false (by omega)
    clear c3
    by_cases c4 : (a1.size : Int) > 1048576
    · rw [if_pos c4] at H
      have c4b0 : decide (1048576 < (a1.size : Int)) = true := decide_eq_true c4
      have c4b1 : decide (1048576 < a1.size) = true := decide_eq_true (by omega)
      clear c4
      obtain rfl := Option.some.inj H
      go_enter Try.func6, Try.ntmps6
      go_wp2
      go_ret
      exact ⟨by first | rfl | (simp [errW_none, errW_some] <;> rfl) | (simp [*, errW_none, errW_some] <;> rfl) | (simp [errW_none, errW_some]; exact ⟨rfl, rfl⟩), by repeat (first | (with_reducible first | exact HB.out | apply below_alloc | apply pw_below_drewN | apply below_drew1) | exact HB.out)⟩
    · rw [if_neg c4] at H
      have c4b0 : decide (1048576 < (a1.size : Int)) = false := decide_eq_false c4
      have c4b1 : decide (1048576 < a1.size) = false := decide_eq_false (by omega)
      clear c4
      replace H := Option.bind_eq_some_iff.mp H
      obtain ⟨⟨t380, t381⟩, A50, H⟩ := H
      replace H : ((impl_RestAll.f a0 a1).bind fun bt382 => (if bt382.1.toList = t380.toList then (if (bt382.2 != t381) = true then (some false) else (some true)) else (some false))) = some r := H
      have A5 := Aside0.mk A50
      clear A50
      replace H := Option.bind_eq_some_iff.mp H
      obtain ⟨⟨t382, t383⟩, A60, H⟩ := H
      replace H : (if t382.toList = t380.toList then (if (t383 != t381) = true then (some false) else (some true)) else (some false)) = some r := H
      have A6 := Aside0.mk A60
      clear A60
      by_cases c7 : t382.toList = t380.toList
      · rw [if_pos c7] at H
        have c7b0 : (t382.toList == t380.toList) = true := beq_iff_eq.mpr c7
        have c7b1 : (t382.toList != t380.toList) = false := bne_eq_false_iff_eq.mpr c7
        clear c7
        by_cases c8 : (t383 != t381) = true
        · rw [if_pos c8] at H
          have c8b0 : (t383 != t381) = true := c8
          (try (have c8b1 : decide (t383 = t381) = false := by simpa using c8))
          (try (have c8b2 : (t383 == t381) = false := by simpa using c8))
          (try (have c8b3 : ¬ (t383 = t381) := by simpa using c8))
          clear c8
          obtain rfl := Option.some.inj H
          go_enter Try.func6, Try.ntmps6
          go_wp2_with (first | ((with_reducible refine gate_callee (f := 15) rfl ?_); refine goesL_ (some 18) rfl rfl Try.func15 (by kernel_rfl) rfl #[.string a0, .string a1] rfl (by (try simp only [List.map_toArray, List.map_cons, List.map_nil]); first | done | rfl | (simp only [List.length_drop, List.length_take]; rfl)) ?_; (with_reducible refine (spec_RestAll.calls k a0 a1 t380 t381 _ A5.out).mono ?_); rintro e w9 ⟨rfl, hb⟩; refine ⟨_, rfl, ?_⟩; have n0_ := Aside0.mk (below_step (by repeat (first | (with_reducible first | exact HB.out | apply below_alloc | apply pw_below_drewN | apply below_drew1) | exact HB.out)) hb); clear HB; have HB := n0_; clear n0_; (try clear hb); (try clear hb2); (try clear hk); (try clear hi)) | ((with_reducible refine gate_callee (f := 16) rfl ?_); refine goesL_ (some 24) rfl rfl Try.func16 (by kernel_rfl) rfl #[.string a0, .string a1] rfl (by (try simp only [List.map_toArray, List.map_cons, List.map_nil]); first | done | rfl | (simp only [List.length_drop, List.length_take]; rfl)) ?_; (with_reducible refine (impl_RestAll.calls a0 a1 t382 t383 _ A6.out).mono ?_); rintro e w10 ⟨rfl, hb⟩; refine ⟨_, rfl, ?_⟩; have n0_ := Aside0.mk (below_step (by repeat (first | (with_reducible first | exact HB.out | apply below_alloc | apply pw_below_drewN | apply below_drew1) | exact HB.out)) hb); clear HB; have HB := n0_; clear n0_; (try clear hb); (try clear hb2); (try clear hk); (try clear hi)))
          go_ret
          exact ⟨by first | rfl | (simp [errW_none, errW_some] <;> rfl) | (simp [*, errW_none, errW_some] <;> rfl) | (simp [errW_none, errW_some]; exact ⟨rfl, rfl⟩), by repeat (first | (with_reducible first | exact HB.out | apply below_alloc | apply pw_below_drewN | apply below_drew1) | exact HB.out)⟩
        · rw [if_neg c8] at H
          have c8b0 : (t383 != t381) = false := by simpa using c8
          (try (have c8b1 : decide (t383 = t381) = true := by simpa using c8))
          (try (have c8b2 : (t383 == t381) = true := by simpa using c8))
          clear c8
          obtain rfl := Option.some.inj H
          go_enter Try.func6, Try.ntmps6
          go_wp2_with (first | ((with_reducible refine gate_callee (f := 15) rfl ?_); refine goesL_ (some 18) rfl rfl Try.func15 (by kernel_rfl) rfl #[.string a0, .string a1] rfl (by (try simp only [List.map_toArray, List.map_cons, List.map_nil]); first | done | rfl | (simp only [List.length_drop, List.length_take]; rfl)) ?_; (with_reducible refine (spec_RestAll.calls k a0 a1 t380 t381 _ A5.out).mono ?_); rintro e w11 ⟨rfl, hb⟩; refine ⟨_, rfl, ?_⟩; have n0_ := Aside0.mk (below_step (by repeat (first | (with_reducible first | exact HB.out | apply below_alloc | apply pw_below_drewN | apply below_drew1) | exact HB.out)) hb); clear HB; have HB := n0_; clear n0_; (try clear hb); (try clear hb2); (try clear hk); (try clear hi)) | ((with_reducible refine gate_callee (f := 16) rfl ?_); refine goesL_ (some 24) rfl rfl Try.func16 (by kernel_rfl) rfl #[.string a0, .string a1] rfl (by (try simp only [List.map_toArray, List.map_cons, List.map_nil]); first | done | rfl | (simp only [List.length_drop, List.length_take]; rfl)) ?_; (with_reducible refine (impl_RestAll.calls a0 a1 t382 t383 _ A6.out).mono ?_); rintro e w12 ⟨rfl, hb⟩; refine ⟨_, rfl, ?_⟩; have n0_ := Aside0.mk (below_step (by repeat (first | (with_reducible first | exact HB.out | apply below_alloc | apply pw_below_drewN | apply below_drew1) | exact HB.out)) hb); clear HB; have HB := n0_; clear n0_; (try clear hb); (try clear hb2); (try clear hk); (try clear hi)))
          go_ret
          exact ⟨by first | rfl | (simp [errW_none, errW_some] <;> rfl) | (simp [*, errW_none, errW_some] <;> rfl) | (simp [errW_none, errW_some]; exact ⟨rfl, rfl⟩), by repeat (first | (with_reducible first | exact HB.out | apply below_alloc | apply pw_below_drewN | apply below_drew1) | exact HB.out)⟩
      · rw [if_neg c7] at H
        have c7b0 : (t382.toList == t380.toList) = false := beq_eq_false_iff_ne.mpr c7
        have c7b1 : (t382.toList != t380.toList) = true := bne_iff_ne.mpr c7
        obtain rfl := Option.some.inj H
        go_enter Try.func6, Try.ntmps6
        go_wp2_with (first | ((with_reducible refine gate_callee (f := 15) rfl ?_); refine goesL_ (some 18) rfl rfl Try.func15 (by kernel_rfl) rfl #[.string a0, .string a1] rfl (by (try simp only [List.map_toArray, List.map_cons, List.map_nil]); first | done | rfl | (simp only [List.length_drop, List.length_take]; rfl)) ?_; (with_reducible refine (spec_RestAll.calls k a0 a1 t380 t381 _ A5.out).mono ?_); rintro e w13 ⟨rfl, hb⟩; refine ⟨_, rfl, ?_⟩; have n0_ := Aside0.mk (below_step (by repeat (first | (with_reducible first | exact HB.out | apply below_alloc | apply pw_below_drewN | apply below_drew1) | exact HB.out)) hb); clear HB; have HB := n0_; clear n0_; (try clear hb); (try clear hb2); (try clear hk); (try clear hi)) | ((with_reducible refine gate_callee (f := 16) rfl ?_); refine goesL_ (some 24) rfl rfl Try.func16 (by kernel_rfl) rfl #[.string a0, .string a1] rfl (by (try simp only [List.map_toArray, List.map_cons, List.map_nil]); first | done | rfl | (simp only [List.length_drop, List.length_take]; rfl)) ?_; (with_reducible refine (impl_RestAll.calls a0 a1 t382 t383 _ A6.out).mono ?_); rintro e w14 ⟨rfl, hb⟩; refine ⟨_, rfl, ?_⟩; have n0_ := Aside0.mk (below_step (by repeat (first | (with_reducible first | exact HB.out | apply below_alloc | apply pw_below_drewN | apply below_drew1) | exact HB.out)) hb); clear HB; have HB := n0_; clear n0_; (try clear hb); (try clear hb2); (try clear hk); (try clear hi)))
        go_ret
        exact ⟨by first | rfl | (simp [errW_none, errW_some] <;> rfl) | (simp [*, errW_none, errW_some] <;> rfl) | (simp [errW_none, errW_some]; exact ⟨rfl, rfl⟩), by repeat (first | (with_reducible first | exact HB.out | apply below_alloc | apply pw_below_drewN | apply below_drew1) | exact HB.out)⟩

/-- THE ONE PURE STATEMENT of laws_FnExactRestAll: yours. -/
noncomputable def laws_FnExactRestAll.Pure : Prop := ∀ (a0 : ByteArray) (a1 : ByteArray), a0.size ≤ 140737488351232 → a1.size ≤ 140737488351232 → ∃ k, laws_FnExactRestAll.f k a0 a1 = some true
theorem laws_FnExactRestAll.walk (P : laws_FnExactRestAll.Pure) (a0 : ByteArray) (a1 : ByteArray) (w : World) (w0 : a0.size ≤ 140737488351232) (w1 : a1.size ≤ 140737488351232) :
    Calls Try.prog 6 #[.string a0, .string a1] w fun e w' => e = .returned (.bool true) ∧ Below w.heap.size w w' := by
  obtain ⟨k, h⟩ := P a0 a1 w0 w1
  refine (laws_FnExactRestAll.calls k a0 a1 true w h).mono ?_
  rintro e w' ⟨rfl, hd⟩
  exact ⟨rfl, hd⟩

end Go.Proofs.Ytgheopbdmijlkaa.P

-- spec.RestAll.
namespace Go.Proofs.Ytgheopbdmijlkaa.P
open Go.RowKit Go.Proofs.YtgheopbdmijlkaaW.PrintWords Go.Proofs.YtgheopbdmijlkaaW.PrintLast Go.Proofs.YtgheopbdmijlkaaW.PrintMore
set_option linter.unusedVariables false
set_option linter.unusedSimpArgs false

theorem srestAll_f (s t : ByteArray) (hs : s.size ≤ 70368744177664) (ht : t.size ≤ 70368744177664) : Ev (fun k => spec_RestAll.f k s t) (rsr (chrs s) (chrs t) true) :=
  Ev.congr (fun k => rfl) (Ev.bind (quot_f s t hs ht true) (Ev.now _))
end Go.Proofs.Ytgheopbdmijlkaa.P

-- For all arguments the law FnExactRestAll holds.
namespace Go.Proofs.Ytgheopbdmijlkaa.P
open Go.RowKit Go.Proofs.YtgheopbdmijlkaaW.PrintWords Go.Proofs.YtgheopbdmijlkaaW.PrintLast Go.Proofs.YtgheopbdmijlkaaW.PrintMore
set_option linter.unusedVariables false
set_option linter.unusedSimpArgs false

theorem lawExactRestAll_ev (s t : ByteArray) : Ev (fun k => laws_FnExactRestAll.f k s t) true := by
  by_cases hl : (s.size : Int) > 1048576
  · refine Ev.congr (f := fun _ => some true) (fun k => ?_) (Ev.now _)
    unfold laws_FnExactRestAll.f; rw [if_pos hl]
  · by_cases ht : (t.size : Int) > 1048576
    · refine Ev.congr (f := fun _ => some true) (fun k => ?_) (Ev.now _)
      unfold laws_FnExactRestAll.f; rw [if_neg hl, if_pos ht]
    · have hs : s.size ≤ 70368744177664 := by omega
      have hs2 : t.size ≤ 70368744177664 := by omega
      refine Ev.congr (f := fun k => (spec_RestAll.f k s t).bind fun bt402 => ((impl_RestAll.f s t).bind fun bt404 => (if bt404.1.toList = bt402.1.toList then (if (bt404.2 != bt402.2) = true then (some false) else (some true)) else (some false)))) (fun k => ?_) (Ev.bind (srestAll_f s t hs hs2) ?_)
      · unfold laws_FnExactRestAll.f; rw [if_neg hl, if_neg ht]
      · rw [restAll_f s t hs hs2]
        simp only [Option.bind_some, if_true, bne_self_eq_false, Bool.false_eq_true, if_false]
        exact Ev.now _
theorem lawExactRestAll_pure : laws_FnExactRestAll.Pure := fun s t _ _ => (lawExactRestAll_ev s t).rounds
end Go.Proofs.Ytgheopbdmijlkaa.P

-- For all arguments the law FnExactRestAll holds.
namespace Go.Proofs.Ytgheopbdmijlkaa.Pure
theorem FnExactRestAll : Go.Proofs.Ytgheopbdmijlkaa.P.laws_FnExactRestAll.Pure := Go.Proofs.Ytgheopbdmijlkaa.P.lawExactRestAll_pure
end Go.Proofs.Ytgheopbdmijlkaa.Pure
