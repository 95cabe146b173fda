/- What these laws reach, joined by a program of this session: contracts (written by that program over the kit's print, or by hand) and plain lemmas. -/
import Derived.Test.YtfoolgjofinmlaaK1
import Derived.Test.YtfoolgjofinmlaaK3
import Derived.Test.YtfoolgjofinmlaaK5
-- impl.MakeBoth.
namespace Go.Proofs.Ytfoolgjofinmlaa.P
open Go.RowKit Go.Proofs.YtfoolgjofinmlaaW.PrintWords Go.Proofs.YtfoolgjofinmlaaW.PrintLast Go.Proofs.YtfoolgjofinmlaaW.PrintMore
set_option linter.unusedVariables false
set_option linter.unusedSimpArgs false

noncomputable def impl_MakeBoth.f (s t : ByteArray) : Option (ByteArray × Bool) := if s.size ≤ 70368744177664 ∧ t.size ≤ 70368744177664 then some (two (fun x y => x && y) (chrs s) (chrs t)) else none
theorem makeBoth_f (s t : ByteArray) (hs : s.size ≤ 70368744177664) (ht : t.size ≤ 70368744177664) : impl_MakeBoth.f s t = some (two (fun x y => x && y) (chrs s) (chrs t)) := by unfold impl_MakeBoth.f; rw [if_pos ⟨hs, ht⟩]

set_option maxHeartbeats 8000000 in
theorem bothq_q_calls (p q : Bool) (W : World) :
    Calls Try.prog 29 #[.bool p, .bool q] W fun e w' => e = .returned (.bool (p && q)) ∧ Below W.heap.size W w' := by
  cases p <;> cases q
  all_goals
    go_enter Try.func29, Try.ntmps29
    go_wp2
    go_ret
    exact ⟨rfl, Below.refl _ _⟩

set_option maxHeartbeats 8000000 in
set_option maxRecDepth 100000 in
theorem impl_MakeBoth.calls (a0 a1 : ByteArray) (r1 : ByteArray) (r2 : Bool) (w : World) (h : impl_MakeBoth.f a0 a1 = some (r1, r2)) :
    Calls Try.prog 10 #[.string a0, .string a1] w fun e w' => e = .returned (.tuple #[.string r1, .bool r2]) ∧ Below w.heap.size w w' := by
  unfold impl_MakeBoth.f at h
  split at h
  · rename_i hs
    simp only [Option.some.injEq] at h
    have eg : ∀ args w, (callFunc 29 args).run Try.prog w = .ok (.enter 29 args) w := enters_of Try.func29 (by kernel_rfl) rfl
    have hx : ∀ w1 : World, Calls Try.prog 28 #[.string a0, .string a1, .func (.func 29) #[] #[]] w1 fun e w' => e = .returned (.tuple #[.string r1, .bool r2]) ∧ Below w1.heap.size w1 w' := by
      intro w1
      have := pair_calls a0 a1 hs.1 hs.2 29 #[] (fun x y => x && y) w1 eg (fun W p q _ => bothq_q_calls p q W)
      rw [h] at this
      exact this
    have HX := Aside0.mk hx
    clear hx h hs eg
    go_enter Try.func10, Try.ntmps10
    go_wp2_with (go_at_call 28; refine (HX.out _).mono ?_; rintro e w2 ⟨rfl, hb2⟩)
    go_ret2
    exact ⟨rfl, hb2⟩
  · cases h
end Go.Proofs.Ytfoolgjofinmlaa.P

-- impl.MakeEither.
namespace Go.Proofs.Ytfoolgjofinmlaa.P
open Go.RowKit Go.Proofs.YtfoolgjofinmlaaW.PrintWords Go.Proofs.YtfoolgjofinmlaaW.PrintLast Go.Proofs.YtfoolgjofinmlaaW.PrintMore
set_option linter.unusedVariables false
set_option linter.unusedSimpArgs false

noncomputable def impl_MakeEither.f (s t : ByteArray) : Option (ByteArray × Bool) := if s.size ≤ 70368744177664 ∧ t.size ≤ 70368744177664 then some (two (fun x y => x || y) (chrs s) (chrs t)) else none
theorem makeEither_f (s t : ByteArray) (hs : s.size ≤ 70368744177664) (ht : t.size ≤ 70368744177664) : impl_MakeEither.f s t = some (two (fun x y => x || y) (chrs s) (chrs t)) := by unfold impl_MakeEither.f; rw [if_pos ⟨hs, ht⟩]

set_option maxHeartbeats 8000000 in
theorem either_q_calls (p q : Bool) (W : World) :
    Calls Try.prog 35 #[.bool p, .bool q] W fun e w' => e = .returned (.bool (p || q)) ∧ Below W.heap.size W w' := by
  cases p <;> cases q
  all_goals
    go_enter Try.func35, Try.ntmps35
    go_wp2
    go_ret
    exact ⟨rfl, Below.refl _ _⟩

set_option maxHeartbeats 8000000 in
set_option maxRecDepth 100000 in
theorem impl_MakeEither.calls (a0 a1 : ByteArray) (r1 : ByteArray) (r2 : Bool) (w : World) (h : impl_MakeEither.f a0 a1 = some (r1, r2)) :
    Calls Try.prog 15 #[.string a0, .string a1] w fun e w' => e = .returned (.tuple #[.string r1, .bool r2]) ∧ Below w.heap.size w w' := by
  unfold impl_MakeEither.f at h
  split at h
  · rename_i hs
    simp only [Option.some.injEq] at h
    have eg : ∀ args w, (callFunc 35 args).run Try.prog w = .ok (.enter 35 args) w := enters_of Try.func35 (by kernel_rfl) rfl
    have hx : ∀ w1 : World, Calls Try.prog 28 #[.string a0, .string a1, .func (.func 35) #[] #[]] w1 fun e w' => e = .returned (.tuple #[.string r1, .bool r2]) ∧ Below w1.heap.size w1 w' := by
      intro w1
      have := pair_calls a0 a1 hs.1 hs.2 35 #[] (fun x y => x || y) w1 eg (fun W p q _ => either_q_calls p q W)
      rw [h] at this
      exact this
    have HX := Aside0.mk hx
    clear hx h hs eg
    go_enter Try.func15, Try.ntmps15
    go_wp2_with (go_at_call 28; refine (HX.out _).mono ?_; rintro e w2 ⟨rfl, hb2⟩)
    go_ret2
    exact ⟨rfl, hb2⟩
  · cases h
end Go.Proofs.Ytfoolgjofinmlaa.P

namespace Go.Proofs.Ytfoolgjofinmlaa.P
open Go.RowKit Go.Proofs.YtfoolgjofinmlaaW.PrintWords Go.Proofs.YtfoolgjofinmlaaW.PrintLast Go.Proofs.YtfoolgjofinmlaaW.PrintMore
attribute [local go_sem] max2_int min2_int max_two min_two max_three min_three max_four min_four   -- for this text's walks alone
set_option linter.unusedVariables false
set_option linter.unusedSimpArgs false

/-! ### spec_DrawMakeBoth: function 9 -/
def spec_DrawMakeBoth.f (k : Nat) (l0 : List Int) : Option (ByteArray × ByteArray) := (spec_l6Open.f l0).bind fun bt131 => ((spec_l91Set.f k bt131.1 bt131.2).bind fun bt134 => ((spec_l91Set.f k bt131.1 bt134.2).bind fun bt136 => (some (bt134.1, bt136.1))))
theorem spec_DrawMakeBoth.mono : ∀ a0 k, LeO (spec_DrawMakeBoth.f k a0) (spec_DrawMakeBoth.f (k + 1) a0) := by
  intro a0 k
  unfold spec_DrawMakeBoth.f
  repeat' first
      | (with_reducible exact spec_l91Set.mono _ _ _)
      | (with_reducible exact LeO.refl _)
      | (with_reducible exact LeO.none _)
      | (with_reducible refine LeO.ite ?_ ?_)
      | (with_reducible refine LeO.bind ?_ (fun _ => ?_))
      | exact spec_l91Set.mono _ _ _
      | exact LeO.none _
      | refine LeO.ite ?_ ?_
      | refine LeO.bind ?_ (fun _ => ?_)
set_option maxHeartbeats 8000000 in
set_option maxRecDepth 100000 in
theorem spec_DrawMakeBoth.calls (k : Nat) (A0 : Option Addr) (c0 : Nat) (l0 : List Int) (r1 : ByteArray) (r2 : ByteArray) (w : World) (hr0 : Kd.C (Kd.int .u8) w A0 l0.length l0) (hc0 : l0.length ≤ c0) (h : spec_DrawMakeBoth.f k l0 = some (r1, r2)) :
    Calls Try.prog 9 #[.slice A0 l0.length c0] w fun e w' => e = .returned (.tuple #[.string r1, .string r2]) ∧ Below w.heap.size w w' := by
  have HR0 := Aside0.mk hr0
  have HC0 := Aside0.mk hc0
  clear hr0 hc0
  have HB := Aside0.mk (Below.refl w.heap.size w)
  have H : ((spec_l6Open.f l0).bind fun bt131 => ((spec_l91Set.f k bt131.1 bt131.2).bind fun bt134 => ((spec_l91Set.f k bt131.1 bt134.2).bind fun bt136 => (some (bt134.1, bt136.1))))) = some (r1, r2) := h
  clear h
  replace H := Option.bind_eq_some_iff.mp H
  obtain ⟨⟨t131, t132⟩, A20, H⟩ := H
  replace H : ((spec_l91Set.f k t131 t132).bind fun bt134 => ((spec_l91Set.f k t131 bt134.2).bind fun bt136 => (some (bt134.1, bt136.1)))) = some (r1, r2) := H
  have A2 := Aside0.mk A20
  clear A20
  replace H := Option.bind_eq_some_iff.mp H
  obtain ⟨⟨t134, t135⟩, A30, H⟩ := H
  replace H : ((spec_l91Set.f k t131 t135).bind fun bt136 => (some (t134, bt136.1))) = some (r1, r2) := H
  have A3 := Aside0.mk A30
  clear A30
  replace H := Option.bind_eq_some_iff.mp H
  obtain ⟨⟨t136, t137⟩, A40, H⟩ := H
  replace H : (some (t134, t136)) = some (r1, r2) := H
  have A4 := Aside0.mk A40
  clear A40
  simp only [Option.some.injEq, Prod.mk.injEq] at H
  obtain ⟨rfl, rfl⟩ := H
  go_enter Try.func9, Try.ntmps9
  go_wp2_with (first | ((with_reducible refine gate_callee (f := 26) rfl ?_); refine goesL_ (some 6) rfl rfl Try.func26 (by kernel_rfl) rfl #[.slice A0 l0.length c0] rfl (by (try simp only [List.map_toArray, List.map_cons, List.map_nil]); first | done | rfl | (simp only [List.length_drop, List.length_take]; rfl)) ?_; (with_reducible refine (spec_l6Open.calls _ _ l0 t131 t132 w _ ?side1 ?side2 ?side3 A2.out).mono ?_); (case side1 => repeat (first | (with_reducible first | exact HB.out | apply below_alloc | apply pw_below_drewN | apply below_drew1) | exact HB.out)); (case side2 => exact HR0.out); (case side3 => exact HC0.out); rintro e w5 ⟨g133, rfl, hi, hb, hb2⟩; refine ⟨_, rfl, ?_⟩; have n0_ := Aside0.mk (hb); have n1_ := Aside0.mk (hi); clear HB; have HB := n0_; have HI133 := n1_; clear n0_ n1_; (try clear hb); (try clear hb2); (try clear hk); (try clear hi)) | ((with_reducible refine gate_callee (f := 27) rfl ?_); refine goesL_ (some 8) rfl rfl Try.func27 (by kernel_rfl) rfl #[.pointer (some ⟨g133, 0, none⟩)] rfl (by (try simp only [List.map_toArray, List.map_cons, List.map_nil]); first | done | rfl | (simp only [List.length_drop, List.length_take]; rfl)) ?_; (with_reducible refine (spec_l91Set.calls k g133 t131 t132 t134 t135 w _ ?side1 ?side2 A3.out).mono ?_); (case side1 => repeat (first | (with_reducible first | exact HI133.out | apply IsS63.alloc | apply IsS63.drewN | apply IsS63.drew | apply IsS63.set_1) | exact HI133.out)); (case side2 => repeat (first | (with_reducible first | exact HB.out | apply below_alloc | apply pw_below_drewN | apply below_drew1 | refine below_set ?_ (IsS63.ge HI133.out)) | exact HB.out)); rintro e w6 ⟨rfl, hi, hb, hk⟩; refine ⟨_, rfl, ?_⟩; have n0_ := Aside0.mk (hb); have n1_ := Aside0.mk (hi); clear HB; clear HI133; have HB := n0_; have HI133 := n1_; clear n0_ n1_; (try clear hb); (try clear hb2); (try clear hk); (try clear hi)) | ((with_reducible refine gate_callee (f := 27) rfl ?_); refine goesL_ (some 10) rfl rfl Try.func27 (by kernel_rfl) rfl #[.pointer (some ⟨g133, 0, none⟩)] rfl (by (try simp only [List.map_toArray, List.map_cons, List.map_nil]); first | done | rfl | (simp only [List.length_drop, List.length_take]; rfl)) ?_; (with_reducible refine (spec_l91Set.calls k g133 t131 t135 t136 t137 w _ ?side1 ?side2 A4.out).mono ?_); (case side1 => repeat (first | (with_reducible first | exact HI133.out | apply IsS63.alloc | apply IsS63.drewN | apply IsS63.drew | apply IsS63.set_1) | exact HI133.out)); (case side2 => repeat (first | (with_reducible first | exact HB.out | apply below_alloc | apply pw_below_drewN | apply below_drew1 | refine below_set ?_ (IsS63.ge HI133.out)) | exact HB.out)); rintro e w7 ⟨rfl, hi, hb, hk⟩; refine ⟨_, rfl, ?_⟩; have n0_ := Aside0.mk (hb); have n1_ := Aside0.mk (hi); clear HB; clear HI133; have HB := n0_; have HI133 := n1_; clear n0_ n1_; (try clear hb); (try clear hb2); (try clear hk); (try clear hi)))
  go_ret2
  exact ⟨by first | rfl | (simp [errW_none, errW_some] <;> rfl) | (simp [*, errW_none, errW_some] <;> rfl) | (simp [errW_none, errW_some]; exact ⟨rfl, rfl⟩), by repeat (first | (with_reducible first | exact HB.out | apply below_alloc | apply pw_below_drewN | apply below_drew1 | refine below_set ?_ (IsS63.ge HI133.out)) | exact HB.out)⟩

end Go.Proofs.Ytfoolgjofinmlaa.P

namespace Go.Proofs.Ytfoolgjofinmlaa.P
open Go.RowKit Go.Proofs.YtfoolgjofinmlaaW.PrintWords Go.Proofs.YtfoolgjofinmlaaW.PrintLast Go.Proofs.YtfoolgjofinmlaaW.PrintMore
attribute [local go_sem] max2_int min2_int max_two min_two max_three min_three max_four min_four   -- for this text's walks alone
set_option linter.unusedVariables false
set_option linter.unusedSimpArgs false

/-! ### spec_MakeBoth: function 11 -/
def spec_MakeBoth.f (k : Nat) (a0 : ByteArray) (a1 : ByteArray) : Option (ByteArray × Bool) := (spec_l2Two.f k a0 a1 8).bind fun bt347 => (some (bt347.1, bt347.2))
theorem spec_MakeBoth.mono : ∀ a0 a1 k, LeO (spec_MakeBoth.f k a0 a1) (spec_MakeBoth.f (k + 1) a0 a1) := by
  intro a0 a1 k
  unfold spec_MakeBoth.f
  repeat' first
      | (with_reducible exact spec_l2Two.mono _ _ _ _)
      | (with_reducible exact LeO.refl _)
      | (with_reducible exact LeO.none _)
      | (with_reducible refine LeO.ite ?_ ?_)
      | (with_reducible refine LeO.bind ?_ (fun _ => ?_))
      | exact spec_l2Two.mono _ _ _ _
      | exact LeO.none _
      | refine LeO.ite ?_ ?_
      | refine LeO.bind ?_ (fun _ => ?_)
set_option maxHeartbeats 8000000 in
set_option maxRecDepth 100000 in
theorem spec_MakeBoth.calls (k : Nat) (a0 : ByteArray) (a1 : ByteArray) (r1 : ByteArray) (r2 : Bool) (w : World) (h : spec_MakeBoth.f k a0 a1 = some (r1, r2)) :
    Calls Try.prog 11 #[.string a0, .string a1] w fun e w' => e = .returned (.tuple #[.string r1, .bool r2]) ∧ Below w.heap.size w w' := by
  have HB := Aside0.mk (Below.refl w.heap.size w)
  have H : ((spec_l2Two.f k a0 a1 8).bind fun bt347 => (some (bt347.1, bt347.2))) = some (r1, r2) := h
  clear h
  replace H := Option.bind_eq_some_iff.mp H
  obtain ⟨⟨t347, t348⟩, A30, H⟩ := H
  replace H : (some (t347, t348)) = some (r1, r2) := H
  have A3 := Aside0.mk A30
  clear A30
  simp only [Option.some.injEq, Prod.mk.injEq] at H
  obtain ⟨rfl, rfl⟩ := H
  go_enter Try.func11, Try.ntmps11
  go_wp2_with (first | ((with_reducible refine gate_callee (f := 30) rfl ?_); refine goesL_ (some 8) rfl rfl Try.func30 (by kernel_rfl) rfl #[.string a0, .string a1, .int .i64 8] rfl (by (try simp only [List.map_toArray, List.map_cons, List.map_nil]); first | done | rfl | (simp only [List.length_drop, List.length_take]; rfl)) ?_; (with_reducible refine (spec_l2Two.calls k a0 a1 8 t347 t348 _ A3.out).mono ?_); rintro e w4 ⟨rfl, hb⟩; refine ⟨_, rfl, ?_⟩; have n0_ := Aside0.mk (below_step (by repeat (first | (with_reducible first | exact HB.out | apply below_alloc | apply pw_below_drewN | apply below_drew1) | exact HB.out)) hb); clear HB; have HB := n0_; clear n0_; (try clear hb); (try clear hb2); (try clear hk); (try clear hi)))
  go_ret2
  exact ⟨by first | rfl | (simp [errW_none, errW_some] <;> rfl) | (simp [*, errW_none, errW_some] <;> rfl) | (simp [errW_none, errW_some]; exact ⟨rfl, rfl⟩), by repeat (first | (with_reducible first | exact HB.out | apply below_alloc | apply pw_below_drewN | apply below_drew1) | exact HB.out)⟩

end Go.Proofs.Ytfoolgjofinmlaa.P

-- spec.MakeBoth.
namespace Go.Proofs.Ytfoolgjofinmlaa.P
open Go.RowKit Go.Proofs.YtfoolgjofinmlaaW.PrintWords Go.Proofs.YtfoolgjofinmlaaW.PrintLast Go.Proofs.YtfoolgjofinmlaaW.PrintMore
set_option linter.unusedVariables false
set_option linter.unusedSimpArgs false

theorem tells_bothq : Tells 8 (fun x y => x && y) := fun x y => by cases x <;> cases y <;> decide +kernel
theorem smakeBoth_f (s t : ByteArray) (hs : s.size ≤ 70368744177664) (ht : t.size ≤ 70368744177664) : Ev (fun k => spec_MakeBoth.f k s t) (two (fun x y => x && y) (chrs s) (chrs t)) :=
  Ev.congr (fun k => rfl) (Ev.bind (two_f 8 _ tells_bothq s t hs ht) (Ev.now _))
end Go.Proofs.Ytfoolgjofinmlaa.P

namespace Go.Proofs.Ytfoolgjofinmlaa.P
open Go.RowKit Go.Proofs.YtfoolgjofinmlaaW.PrintWords Go.Proofs.YtfoolgjofinmlaaW.PrintLast Go.Proofs.YtfoolgjofinmlaaW.PrintMore
attribute [local go_sem] max2_int min2_int max_two min_two max_three min_three max_four min_four   -- for this text's walks alone
set_option linter.unusedVariables false
set_option linter.unusedSimpArgs false

/-! ### spec_DrawMakeEither: function 14 -/
def spec_DrawMakeEither.f (k : Nat) (l0 : List Int) : Option (ByteArray × ByteArray) := (spec_l6Open.f l0).bind fun bt394 => ((spec_l91Set.f k bt394.1 bt394.2).bind fun bt397 => ((spec_l91Set.f k bt394.1 bt397.2).bind fun bt399 => (some (bt397.1, bt399.1))))
theorem spec_DrawMakeEither.mono : ∀ a0 k, LeO (spec_DrawMakeEither.f k a0) (spec_DrawMakeEither.f (k + 1) a0) := by
  intro a0 k
  unfold spec_DrawMakeEither.f
  repeat' first
      | (with_reducible exact spec_l91Set.mono _ _ _)
      | (with_reducible exact LeO.refl _)
      | (with_reducible exact LeO.none _)
      | (with_reducible refine LeO.ite ?_ ?_)
      | (with_reducible refine LeO.bind ?_ (fun _ => ?_))
      | exact spec_l91Set.mono _ _ _
      | exact LeO.none _
      | refine LeO.ite ?_ ?_
      | refine LeO.bind ?_ (fun _ => ?_)
set_option maxHeartbeats 8000000 in
set_option maxRecDepth 100000 in
theorem spec_DrawMakeEither.calls (k : Nat) (A0 : Option Addr) (c0 : Nat) (l0 : List Int) (r1 : ByteArray) (r2 : ByteArray) (w : World) (hr0 : Kd.C (Kd.int .u8) w A0 l0.length l0) (hc0 : l0.length ≤ c0) (h : spec_DrawMakeEither.f k l0 = some (r1, r2)) :
    Calls Try.prog 14 #[.slice A0 l0.length c0] w fun e w' => e = .returned (.tuple #[.string r1, .string r2]) ∧ Below w.heap.size w w' := by
  have HR0 := Aside0.mk hr0
  have HC0 := Aside0.mk hc0
  clear hr0 hc0
  have HB := Aside0.mk (Below.refl w.heap.size w)
  have H : ((spec_l6Open.f l0).bind fun bt394 => ((spec_l91Set.f k bt394.1 bt394.2).bind fun bt397 => ((spec_l91Set.f k bt394.1 bt397.2).bind fun bt399 => (some (bt397.1, bt399.1))))) = some (r1, r2) := h
  clear h
  replace H := Option.bind_eq_some_iff.mp H
  obtain ⟨⟨t394, t395⟩, A20, H⟩ := H
  replace H : ((spec_l91Set.f k t394 t395).bind fun bt397 => ((spec_l91Set.f k t394 bt397.2).bind fun bt399 => (some (bt397.1, bt399.1)))) = some (r1, r2) := H
  have A2 := Aside0.mk A20
  clear A20
  replace H := Option.bind_eq_some_iff.mp H
  obtain ⟨⟨t397, t398⟩, A30, H⟩ := H
  replace H : ((spec_l91Set.f k t394 t398).bind fun bt399 => (some (t397, bt399.1))) = some (r1, r2) := H
  have A3 := Aside0.mk A30
  clear A30
  replace H := Option.bind_eq_some_iff.mp H
  obtain ⟨⟨t399, t400⟩, A40, H⟩ := H
  replace H : (some (t397, t399)) = some (r1, r2) := H
  have A4 := Aside0.mk A40
  clear A40
  simp only [Option.some.injEq, Prod.mk.injEq] at H
  obtain ⟨rfl, rfl⟩ := H
  go_enter Try.func14, Try.ntmps14
  go_wp2_with (first | ((with_reducible refine gate_callee (f := 26) rfl ?_); refine goesL_ (some 6) rfl rfl Try.func26 (by kernel_rfl) rfl #[.slice A0 l0.length c0] rfl (by (try simp only [List.map_toArray, List.map_cons, List.map_nil]); first | done | rfl | (simp only [List.length_drop, List.length_take]; rfl)) ?_; (with_reducible refine (spec_l6Open.calls _ _ l0 t394 t395 w _ ?side1 ?side2 ?side3 A2.out).mono ?_); (case side1 => repeat (first | (with_reducible first | exact HB.out | apply below_alloc | apply pw_below_drewN | apply below_drew1) | exact HB.out)); (case side2 => exact HR0.out); (case side3 => exact HC0.out); rintro e w5 ⟨g396, rfl, hi, hb, hb2⟩; refine ⟨_, rfl, ?_⟩; have n0_ := Aside0.mk (hb); have n1_ := Aside0.mk (hi); clear HB; have HB := n0_; have HI396 := n1_; clear n0_ n1_; (try clear hb); (try clear hb2); (try clear hk); (try clear hi)) | ((with_reducible refine gate_callee (f := 27) rfl ?_); refine goesL_ (some 8) rfl rfl Try.func27 (by kernel_rfl) rfl #[.pointer (some ⟨g396, 0, none⟩)] rfl (by (try simp only [List.map_toArray, List.map_cons, List.map_nil]); first | done | rfl | (simp only [List.length_drop, List.length_take]; rfl)) ?_; (with_reducible refine (spec_l91Set.calls k g396 t394 t395 t397 t398 w _ ?side1 ?side2 A3.out).mono ?_); (case side1 => repeat (first | (with_reducible first | exact HI396.out | apply IsS63.alloc | apply IsS63.drewN | apply IsS63.drew | apply IsS63.set_1) | exact HI396.out)); (case side2 => repeat (first | (with_reducible first | exact HB.out | apply below_alloc | apply pw_below_drewN | apply below_drew1 | refine below_set ?_ (IsS63.ge HI396.out)) | exact HB.out)); rintro e w6 ⟨rfl, hi, hb, hk⟩; refine ⟨_, rfl, ?_⟩; have n0_ := Aside0.mk (hb); have n1_ := Aside0.mk (hi); clear HB; clear HI396; have HB := n0_; have HI396 := n1_; clear n0_ n1_; (try clear hb); (try clear hb2); (try clear hk); (try clear hi)) | ((with_reducible refine gate_callee (f := 27) rfl ?_); refine goesL_ (some 10) rfl rfl Try.func27 (by kernel_rfl) rfl #[.pointer (some ⟨g396, 0, none⟩)] rfl (by (try simp only [List.map_toArray, List.map_cons, List.map_nil]); first | done | rfl | (simp only [List.length_drop, List.length_take]; rfl)) ?_; (with_reducible refine (spec_l91Set.calls k g396 t394 t398 t399 t400 w _ ?side1 ?side2 A4.out).mono ?_); (case side1 => repeat (first | (with_reducible first | exact HI396.out | apply IsS63.alloc | apply IsS63.drewN | apply IsS63.drew | apply IsS63.set_1) | exact HI396.out)); (case side2 => repeat (first | (with_reducible first | exact HB.out | apply below_alloc | apply pw_below_drewN | apply below_drew1 | refine below_set ?_ (IsS63.ge HI396.out)) | exact HB.out)); rintro e w7 ⟨rfl, hi, hb, hk⟩; refine ⟨_, rfl, ?_⟩; have n0_ := Aside0.mk (hb); have n1_ := Aside0.mk (hi); clear HB; clear HI396; have HB := n0_; have HI396 := n1_; clear n0_ n1_; (try clear hb); (try clear hb2); (try clear hk); (try clear hi)))
  go_ret2
  exact ⟨by first | rfl | (simp [errW_none, errW_some] <;> rfl) | (simp [*, errW_none, errW_some] <;> rfl) | (simp [errW_none, errW_some]; exact ⟨rfl, rfl⟩), by repeat (first | (with_reducible first | exact HB.out | apply below_alloc | apply pw_below_drewN | apply below_drew1 | refine below_set ?_ (IsS63.ge HI396.out)) | exact HB.out)⟩

end Go.Proofs.Ytfoolgjofinmlaa.P

namespace Go.Proofs.Ytfoolgjofinmlaa.P
open Go.RowKit Go.Proofs.YtfoolgjofinmlaaW.PrintWords Go.Proofs.YtfoolgjofinmlaaW.PrintLast Go.Proofs.YtfoolgjofinmlaaW.PrintMore
attribute [local go_sem] max2_int min2_int max_two min_two max_three min_three max_four min_four   -- for this text's walks alone
set_option linter.unusedVariables false
set_option linter.unusedSimpArgs false

/-! ### spec_MakeEither: function 16 -/
def spec_MakeEither.f (k : Nat) (a0 : ByteArray) (a1 : ByteArray) : Option (ByteArray × Bool) := (spec_l2Two.f k a0 a1 14).bind fun bt401 => (some (bt401.1, bt401.2))
theorem spec_MakeEither.mono : ∀ a0 a1 k, LeO (spec_MakeEither.f k a0 a1) (spec_MakeEither.f (k + 1) a0 a1) := by
  intro a0 a1 k
  unfold spec_MakeEither.f
  repeat' first
      | (with_reducible exact spec_l2Two.mono _ _ _ _)
      | (with_reducible exact LeO.refl _)
      | (with_reducible exact LeO.none _)
      | (with_reducible refine LeO.ite ?_ ?_)
      | (with_reducible refine LeO.bind ?_ (fun _ => ?_))
      | exact spec_l2Two.mono _ _ _ _
      | exact LeO.none _
      | refine LeO.ite ?_ ?_
      | refine LeO.bind ?_ (fun _ => ?_)
set_option maxHeartbeats 8000000 in
set_option maxRecDepth 100000 in
theorem spec_MakeEither.calls (k : Nat) (a0 : ByteArray) (a1 : ByteArray) (r1 : ByteArray) (r2 : Bool) (w : World) (h : spec_MakeEither.f k a0 a1 = some (r1, r2)) :
    Calls Try.prog 16 #[.string a0, .string a1] w fun e w' => e = .returned (.tuple #[.string r1, .bool r2]) ∧ Below w.heap.size w w' := by
  have HB := Aside0.mk (Below.refl w.heap.size w)
  have H : ((spec_l2Two.f k a0 a1 14).bind fun bt401 => (some (bt401.1, bt401.2))) = some (r1, r2) := h
  clear h
  replace H := Option.bind_eq_some_iff.mp H
  obtain ⟨⟨t401, t402⟩, A30, H⟩ := H
  replace H : (some (t401, t402)) = some (r1, r2) := H
  have A3 := Aside0.mk A30
  clear A30
  simp only [Option.some.injEq, Prod.mk.injEq] at H
  obtain ⟨rfl, rfl⟩ := H
  go_enter Try.func16, Try.ntmps16
  go_wp2_with (first | ((with_reducible refine gate_callee (f := 30) rfl ?_); refine goesL_ (some 8) rfl rfl Try.func30 (by kernel_rfl) rfl #[.string a0, .string a1, .int .i64 14] rfl (by (try simp only [List.map_toArray, List.map_cons, List.map_nil]); first | done | rfl | (simp only [List.length_drop, List.length_take]; rfl)) ?_; (with_reducible refine (spec_l2Two.calls k a0 a1 14 t401 t402 _ A3.out).mono ?_); rintro e w4 ⟨rfl, hb⟩; refine ⟨_, rfl, ?_⟩; have n0_ := Aside0.mk (below_step (by repeat (first | (with_reducible first | exact HB.out | apply below_alloc | apply pw_below_drewN | apply below_drew1) | exact HB.out)) hb); clear HB; have HB := n0_; clear n0_; (try clear hb); (try clear hb2); (try clear hk); (try clear hi)))
  go_ret2
  exact ⟨by first | rfl | (simp [errW_none, errW_some] <;> rfl) | (simp [*, errW_none, errW_some] <;> rfl) | (simp [errW_none, errW_some]; exact ⟨rfl, rfl⟩), by repeat (first | (with_reducible first | exact HB.out | apply below_alloc | apply pw_below_drewN | apply below_drew1) | exact HB.out)⟩

end Go.Proofs.Ytfoolgjofinmlaa.P

-- spec.MakeEither.
namespace Go.Proofs.Ytfoolgjofinmlaa.P
open Go.RowKit Go.Proofs.YtfoolgjofinmlaaW.PrintWords Go.Proofs.YtfoolgjofinmlaaW.PrintLast Go.Proofs.YtfoolgjofinmlaaW.PrintMore
set_option linter.unusedVariables false
set_option linter.unusedSimpArgs false

theorem tells_either : Tells 14 (fun x y => x || y) := fun x y => by cases x <;> cases y <;> decide +kernel
theorem smakeEither_f (s t : ByteArray) (hs : s.size ≤ 70368744177664) (ht : t.size ≤ 70368744177664) : Ev (fun k => spec_MakeEither.f k s t) (two (fun x y => x || y) (chrs s) (chrs t)) :=
  Ev.congr (fun k => rfl) (Ev.bind (two_f 14 _ tells_either s t hs ht) (Ev.now _))
end Go.Proofs.Ytfoolgjofinmlaa.P

-- impl.MakeWithout.
namespace Go.Proofs.Ytfoolgjofinmlaa.P
open Go.RowKit Go.Proofs.YtfoolgjofinmlaaW.PrintWords Go.Proofs.YtfoolgjofinmlaaW.PrintLast Go.Proofs.YtfoolgjofinmlaaW.PrintMore
set_option linter.unusedVariables false
set_option linter.unusedSimpArgs false

noncomputable def impl_MakeWithout.f (s t : ByteArray) : Option (ByteArray × Bool) := if s.size ≤ 70368744177664 ∧ t.size ≤ 70368744177664 then some (two (fun x y => x && !y) (chrs s) (chrs t)) else none
theorem makeWithout_f (s t : ByteArray) (hs : s.size ≤ 70368744177664) (ht : t.size ≤ 70368744177664) : impl_MakeWithout.f s t = some (two (fun x y => x && !y) (chrs s) (chrs t)) := by unfold impl_MakeWithout.f; rw [if_pos ⟨hs, ht⟩]

set_option maxHeartbeats 8000000 in
theorem without_q_calls (p q : Bool) (W : World) :
    Calls Try.prog 36 #[.bool p, .bool q] W fun e w' => e = .returned (.bool (p && !q)) ∧ Below W.heap.size W w' := by
  cases p <;> cases q
  all_goals
    go_enter Try.func36, Try.ntmps36
    go_wp2
    go_ret
    exact ⟨rfl, Below.refl _ _⟩

set_option maxHeartbeats 8000000 in
set_option maxRecDepth 100000 in
theorem impl_MakeWithout.calls (a0 a1 : ByteArray) (r1 : ByteArray) (r2 : Bool) (w : World) (h : impl_MakeWithout.f a0 a1 = some (r1, r2)) :
    Calls Try.prog 18 #[.string a0, .string a1] w fun e w' => e = .returned (.tuple #[.string r1, .bool r2]) ∧ Below w.heap.size w w' := by
  unfold impl_MakeWithout.f at h
  split at h
  · rename_i hs
    simp only [Option.some.injEq] at h
    have eg : ∀ args w, (callFunc 36 args).run Try.prog w = .ok (.enter 36 args) w := enters_of Try.func36 (by kernel_rfl) rfl
    have hx : ∀ w1 : World, Calls Try.prog 28 #[.string a0, .string a1, .func (.func 36) #[] #[]] w1 fun e w' => e = .returned (.tuple #[.string r1, .bool r2]) ∧ Below w1.heap.size w1 w' := by
      intro w1
      have := pair_calls a0 a1 hs.1 hs.2 36 #[] (fun x y => x && !y) w1 eg (fun W p q _ => without_q_calls p q W)
      rw [h] at this
      exact this
    have HX := Aside0.mk hx
    clear hx h hs eg
    go_enter Try.func18, Try.ntmps18
    go_wp2_with (go_at_call 28; refine (HX.out _).mono ?_; rintro e w2 ⟨rfl, hb2⟩)
    go_ret2
    exact ⟨rfl, hb2⟩
  · cases h
end Go.Proofs.Ytfoolgjofinmlaa.P
