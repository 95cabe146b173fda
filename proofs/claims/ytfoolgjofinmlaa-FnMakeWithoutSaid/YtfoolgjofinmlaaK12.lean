/- What these laws reach, joined by a program of this session: contracts (written by that program over the kit's print, or by hand) and plain lemmas. -/
import Derived.Test.YtfoolgjofinmlaaK1
import Derived.Test.YtfoolgjofinmlaaK3
import Derived.Test.YtfoolgjofinmlaaK4
import Derived.Test.YtfoolgjofinmlaaK5
import Derived.Test.YtfoolgjofinmlaaK6
namespace Go.Proofs.Ytfoolgjofinmlaa.P
open Go.RowKit Go.Proofs.YtfoolgjofinmlaaW.PrintWords Go.Proofs.YtfoolgjofinmlaaW.PrintLast Go.Proofs.YtfoolgjofinmlaaW.PrintMore
attribute [local go_sem] max2_int min2_int max_two min_two max_three min_three max_four min_four   -- for this text's walks alone
set_option linter.unusedVariables false
set_option linter.unusedSimpArgs false

/-! ### spec_DrawMakeWithout: function 17 -/
def spec_DrawMakeWithout.f (k : Nat) (l0 : List Int) : Option (ByteArray × ByteArray) := (spec_l6Open.f l0).bind fun bt414 => ((spec_l91Set.f k bt414.1 bt414.2).bind fun bt417 => ((spec_l91Set.f k bt414.1 bt417.2).bind fun bt419 => (some (bt417.1, bt419.1))))
theorem spec_DrawMakeWithout.mono : ∀ a0 k, LeO (spec_DrawMakeWithout.f k a0) (spec_DrawMakeWithout.f (k + 1) a0) := by
  intro a0 k
  unfold spec_DrawMakeWithout.f
  repeat' first
      | (with_reducible exact spec_l91Set.mono _ _ _)
      | (with_reducible exact LeO.refl _)
      | (with_reducible exact LeO.none _)
      | (with_reducible refine LeO.ite ?_ ?_)
      | (with_reducible refine LeO.bind ?_ (fun _ => ?_))
      | exact spec_l91Set.mono _ _ _
      | exact LeO.none _
      | refine LeO.ite ?_ ?_
      | refine LeO.bind ?_ (fun _ => ?_)
set_option maxHeartbeats 8000000 in
set_option maxRecDepth 100000 in
theorem spec_DrawMakeWithout.calls (k : Nat) (A0 : Option Addr) (c0 : Nat) (l0 : List Int) (r1 : ByteArray) (r2 : ByteArray) (w : World) (hr0 : Kd.C (Kd.int .u8) w A0 l0.length l0) (hc0 : l0.length ≤ c0) (h : spec_DrawMakeWithout.f k l0 = some (r1, r2)) :
    Calls Try.prog 17 #[.slice A0 l0.length c0] w fun e w' => e = .returned (.tuple #[.string r1, .string r2]) ∧ Below w.heap.size w w' := by
  have HR0 := Aside0.mk hr0
  have HC0 := Aside0.mk hc0
  clear hr0 hc0
  have HB := Aside0.mk (Below.refl w.heap.size w)
  have H : ((spec_l6Open.f l0).bind fun bt414 => ((spec_l91Set.f k bt414.1 bt414.2).bind fun bt417 => ((spec_l91Set.f k bt414.1 bt417.2).bind fun bt419 => (some (bt417.1, bt419.1))))) = some (r1, r2) := h
  clear h
  replace H := Option.bind_eq_some_iff.mp H
  obtain ⟨⟨t414, t415⟩, A20, H⟩ := H
  replace H : ((spec_l91Set.f k t414 t415).bind fun bt417 => ((spec_l91Set.f k t414 bt417.2).bind fun bt419 => (some (bt417.1, bt419.1)))) = some (r1, r2) := H
  have A2 := Aside0.mk A20
  clear A20
  replace H := Option.bind_eq_some_iff.mp H
  obtain ⟨⟨t417, t418⟩, A30, H⟩ := H
  replace H : ((spec_l91Set.f k t414 t418).bind fun bt419 => (some (t417, bt419.1))) = some (r1, r2) := H
  have A3 := Aside0.mk A30
  clear A30
  replace H := Option.bind_eq_some_iff.mp H
  obtain ⟨⟨t419, t420⟩, A40, H⟩ := H
  replace H : (some (t417, t419)) = some (r1, r2) := H
  have A4 := Aside0.mk A40
  clear A40
  simp only [Option.some.injEq, Prod.mk.injEq] at H
  obtain ⟨rfl, rfl⟩ := H
  go_enter Try.func17, Try.ntmps17
  go_wp2_with (first | ((with_reducible refine gate_callee (f := 26) rfl ?_); refine goesL_ (some 6) rfl rfl Try.func26 (by kernel_rfl) rfl #[.slice A0 l0.length c0] rfl (by (try simp only [List.map_toArray, List.map_cons, List.map_nil]); first | done | rfl | (simp only [List.length_drop, List.length_take]; rfl)) ?_; (with_reducible refine (spec_l6Open.calls _ _ l0 t414 t415 w _ ?side1 ?side2 ?side3 A2.out).mono ?_); (case side1 => repeat (first | (with_reducible first | exact HB.out | apply below_alloc | apply pw_below_drewN | apply below_drew1) | exact HB.out)); (case side2 => exact HR0.out); (case side3 => exact HC0.out); rintro e w5 ⟨g416, rfl, hi, hb, hb2⟩; refine ⟨_, rfl, ?_⟩; have n0_ := Aside0.mk (hb); have n1_ := Aside0.mk (hi); clear HB; have HB := n0_; have HI416 := n1_; clear n0_ n1_; (try clear hb); (try clear hb2); (try clear hk); (try clear hi)) | ((with_reducible refine gate_callee (f := 27) rfl ?_); refine goesL_ (some 8) rfl rfl Try.func27 (by kernel_rfl) rfl #[.pointer (some ⟨g416, 0, none⟩)] rfl (by (try simp only [List.map_toArray, List.map_cons, List.map_nil]); first | done | rfl | (simp only [List.length_drop, List.length_take]; rfl)) ?_; (with_reducible refine (spec_l91Set.calls k g416 t414 t415 t417 t418 w _ ?side1 ?side2 A3.out).mono ?_); (case side1 => repeat (first | (with_reducible first | exact HI416.out | apply IsS63.alloc | apply IsS63.drewN | apply IsS63.drew | apply IsS63.set_1) | exact HI416.out)); (case side2 => repeat (first | (with_reducible first | exact HB.out | apply below_alloc | apply pw_below_drewN | apply below_drew1 | refine below_set ?_ (IsS63.ge HI416.out)) | exact HB.out)); rintro e w6 ⟨rfl, hi, hb, hk⟩; refine ⟨_, rfl, ?_⟩; have n0_ := Aside0.mk (hb); have n1_ := Aside0.mk (hi); clear HB; clear HI416; have HB := n0_; have HI416 := n1_; clear n0_ n1_; (try clear hb); (try clear hb2); (try clear hk); (try clear hi)) | ((with_reducible refine gate_callee (f := 27) rfl ?_); refine goesL_ (some 10) rfl rfl Try.func27 (by kernel_rfl) rfl #[.pointer (some ⟨g416, 0, none⟩)] rfl (by (try simp only [List.map_toArray, List.map_cons, List.map_nil]); first | done | rfl | (simp only [List.length_drop, List.length_take]; rfl)) ?_; (with_reducible refine (spec_l91Set.calls k g416 t414 t418 t419 t420 w _ ?side1 ?side2 A4.out).mono ?_); (case side1 => repeat (first | (with_reducible first | exact HI416.out | apply IsS63.alloc | apply IsS63.drewN | apply IsS63.drew | apply IsS63.set_1) | exact HI416.out)); (case side2 => repeat (first | (with_reducible first | exact HB.out | apply below_alloc | apply pw_below_drewN | apply below_drew1 | refine below_set ?_ (IsS63.ge HI416.out)) | exact HB.out)); rintro e w7 ⟨rfl, hi, hb, hk⟩; refine ⟨_, rfl, ?_⟩; have n0_ := Aside0.mk (hb); have n1_ := Aside0.mk (hi); clear HB; clear HI416; have HB := n0_; have HI416 := n1_; clear n0_ n1_; (try clear hb); (try clear hb2); (try clear hk); (try clear hi)))
  go_ret2
  exact ⟨by first | rfl | (simp [errW_none, errW_some] <;> rfl) | (simp [*, errW_none, errW_some] <;> rfl) | (simp [errW_none, errW_some]; exact ⟨rfl, rfl⟩), by repeat (first | (with_reducible first | exact HB.out | apply below_alloc | apply pw_below_drewN | apply below_drew1 | refine below_set ?_ (IsS63.ge HI416.out)) | exact HB.out)⟩

end Go.Proofs.Ytfoolgjofinmlaa.P

namespace Go.Proofs.Ytfoolgjofinmlaa.P
open Go.RowKit Go.Proofs.YtfoolgjofinmlaaW.PrintWords Go.Proofs.YtfoolgjofinmlaaW.PrintLast Go.Proofs.YtfoolgjofinmlaaW.PrintMore
attribute [local go_sem] max2_int min2_int max_two min_two max_three min_three max_four min_four   -- for this text's walks alone
set_option linter.unusedVariables false
set_option linter.unusedSimpArgs false

/-! ### spec_MakeWithout: function 19 -/
def spec_MakeWithout.f (k : Nat) (a0 : ByteArray) (a1 : ByteArray) : Option (ByteArray × Bool) := (spec_l2Two.f k a0 a1 4).bind fun bt421 => (some (bt421.1, bt421.2))
theorem spec_MakeWithout.mono : ∀ a0 a1 k, LeO (spec_MakeWithout.f k a0 a1) (spec_MakeWithout.f (k + 1) a0 a1) := by
  intro a0 a1 k
  unfold spec_MakeWithout.f
  repeat' first
      | (with_reducible exact spec_l2Two.mono _ _ _ _)
      | (with_reducible exact LeO.refl _)
      | (with_reducible exact LeO.none _)
      | (with_reducible refine LeO.ite ?_ ?_)
      | (with_reducible refine LeO.bind ?_ (fun _ => ?_))
      | exact spec_l2Two.mono _ _ _ _
      | exact LeO.none _
      | refine LeO.ite ?_ ?_
      | refine LeO.bind ?_ (fun _ => ?_)
set_option maxHeartbeats 8000000 in
set_option maxRecDepth 100000 in
theorem spec_MakeWithout.calls (k : Nat) (a0 : ByteArray) (a1 : ByteArray) (r1 : ByteArray) (r2 : Bool) (w : World) (h : spec_MakeWithout.f k a0 a1 = some (r1, r2)) :
    Calls Try.prog 19 #[.string a0, .string a1] w fun e w' => e = .returned (.tuple #[.string r1, .bool r2]) ∧ Below w.heap.size w w' := by
  have HB := Aside0.mk (Below.refl w.heap.size w)
  have H : ((spec_l2Two.f k a0 a1 4).bind fun bt421 => (some (bt421.1, bt421.2))) = some (r1, r2) := h
  clear h
  replace H := Option.bind_eq_some_iff.mp H
  obtain ⟨⟨t421, t422⟩, A30, H⟩ := H
  replace H : (some (t421, t422)) = some (r1, r2) := H
  have A3 := Aside0.mk A30
  clear A30
  simp only [Option.some.injEq, Prod.mk.injEq] at H
  obtain ⟨rfl, rfl⟩ := H
  go_enter Try.func19, Try.ntmps19
  go_wp2_with (first | ((with_reducible refine gate_callee (f := 30) rfl ?_); refine goesL_ (some 8) rfl rfl Try.func30 (by kernel_rfl) rfl #[.string a0, .string a1, .int .i64 4] rfl (by (try simp only [List.map_toArray, List.map_cons, List.map_nil]); first | done | rfl | (simp only [List.length_drop, List.length_take]; rfl)) ?_; (with_reducible refine (spec_l2Two.calls k a0 a1 4 t421 t422 _ A3.out).mono ?_); rintro e w4 ⟨rfl, hb⟩; refine ⟨_, rfl, ?_⟩; have n0_ := Aside0.mk (below_step (by repeat (first | (with_reducible first | exact HB.out | apply below_alloc | apply pw_below_drewN | apply below_drew1) | exact HB.out)) hb); clear HB; have HB := n0_; clear n0_; (try clear hb); (try clear hb2); (try clear hk); (try clear hi)))
  go_ret2
  exact ⟨by first | rfl | (simp [errW_none, errW_some] <;> rfl) | (simp [*, errW_none, errW_some] <;> rfl) | (simp [errW_none, errW_some]; exact ⟨rfl, rfl⟩), by repeat (first | (with_reducible first | exact HB.out | apply below_alloc | apply pw_below_drewN | apply below_drew1) | exact HB.out)⟩

end Go.Proofs.Ytfoolgjofinmlaa.P

namespace Go.Proofs.Ytfoolgjofinmlaa.P
open Go.RowKit Go.Proofs.YtfoolgjofinmlaaW.PrintWords Go.Proofs.YtfoolgjofinmlaaW.PrintLast Go.Proofs.YtfoolgjofinmlaaW.PrintMore
attribute [local go_sem] max2_int min2_int max_two min_two max_three min_three max_four min_four   -- for this text's walks alone
set_option linter.unusedVariables false
set_option linter.unusedSimpArgs false

/-! ### laws_FnMakeWithout: function 5 -/
mutual
noncomputable def laws_FnMakeWithout.j0 : Nat → ByteArray → ByteArray → ByteArray → Bool → Bool → Option (Bool)
  | 0, _, _, _, _, _ => none
  | k + 1, x3, x4, x5, x6, x9 => if x9 = true then (laws_FnMakeWithout.j1 k x3 x4 x5 x9 (!x6)) else (laws_FnMakeWithout.j1 k x3 x4 x5 x9 true)
noncomputable def laws_FnMakeWithout.j1 : Nat → ByteArray → ByteArray → ByteArray → Bool → Bool → Option (Bool)
  | 0, _, _, _, _, _ => none
  | k + 1, x3, x4, x5, x9, x46 => if x46 = true then (some x9) else (laws_FnMakeWithout.l0 k x3 x4 x5 0)
noncomputable def laws_FnMakeWithout.l0 : Nat → ByteArray → ByteArray → ByteArray → Int → Option (Bool)
  | 0, _, _, _, _ => none
  | k + 1, x3, x4, x5, x10 => if x10 ≤ 150 then ((impl_SetHas.f k x5 x10).bind fun t431 => ((impl_SetHas.f k x3 x10).bind fun t432 => (if t432 = true then ((impl_SetHas.f k x4 x10).bind fun t433 => (if (t431 != (!t433)) = true then (some false) else (laws_FnMakeWithout.l0 k x3 x4 x5 (wrap64 (x10 + 1))))) else (if (t431 != false) = true then (some false) else (laws_FnMakeWithout.l0 k x3 x4 x5 (wrap64 (x10 + 1))))))) else ((impl_SetTidy.f k x5).bind fun bt429 => (if bt429.2 = true then (some (bt429.1.toList == x5.toList)) else (some false)))
end
noncomputable def laws_FnMakeWithout.f (k : Nat) (l0 : List Int) : Option (Bool) := if (l0.length : Int) > 1048576 then (some true) else ((spec_DrawMakeWithout.f k l0).bind fun bt423 => ((impl_MakeWithout.f bt423.1 bt423.2).bind fun bt425 => ((spec_MakeWithout.f k bt423.1 bt423.2).bind fun bt427 => (if bt425.1.toList = bt427.1.toList then (laws_FnMakeWithout.j0 k bt423.1 bt423.2 bt425.1 bt425.2 (bt425.2 == bt427.2)) else (laws_FnMakeWithout.j0 k bt423.1 bt423.2 bt425.1 bt425.2 false)))))
theorem laws_FnMakeWithout.mono_l : ∀ k, (∀ y0 y1 y2 y3 y4, LeO (laws_FnMakeWithout.j0 k y0 y1 y2 y3 y4) (laws_FnMakeWithout.j0 (k + 1) y0 y1 y2 y3 y4)) ∧ (∀ y0 y1 y2 y3 y4, LeO (laws_FnMakeWithout.j1 k y0 y1 y2 y3 y4) (laws_FnMakeWithout.j1 (k + 1) y0 y1 y2 y3 y4)) ∧ (∀ y0 y1 y2 y3, LeO (laws_FnMakeWithout.l0 k y0 y1 y2 y3) (laws_FnMakeWithout.l0 (k + 1) y0 y1 y2 y3))
  | 0 => ⟨fun _ _ _ _ _ r h => by simp [laws_FnMakeWithout.j0] at h, fun _ _ _ _ _ r h => by simp [laws_FnMakeWithout.j1] at h, fun _ _ _ _ r h => by simp [laws_FnMakeWithout.l0] at h⟩
  | k + 1 => by
    obtain ⟨ih0, ih1, ih2⟩ := laws_FnMakeWithout.mono_l k
    refine ⟨?_, ?_, ?_⟩
    · intro y0 y1 y2 y3 y4
      unfold laws_FnMakeWithout.j0
      repeat' first
      | (with_reducible exact ih0 _ _ _ _ _)
      | (with_reducible exact ih1 _ _ _ _ _)
      | (with_reducible exact ih2 _ _ _ _)
      | (with_reducible exact impl_SetHas.mono _ _ _)
      | (with_reducible exact impl_SetTidy.mono _ _)
      | (with_reducible exact spec_DrawMakeWithout.mono _ _)
      | (with_reducible exact spec_MakeWithout.mono _ _ _)
      | (with_reducible exact LeO.refl _)
      | (with_reducible exact LeO.none _)
      | (with_reducible refine LeO.ite ?_ ?_)
      | (with_reducible refine LeO.bind ?_ (fun _ => ?_))
      | exact ih0 _ _ _ _ _
      | exact ih1 _ _ _ _ _
      | exact ih2 _ _ _ _
      | exact impl_SetHas.mono _ _ _
      | exact impl_SetTidy.mono _ _
      | exact spec_DrawMakeWithout.mono _ _
      | exact spec_MakeWithout.mono _ _ _
      | exact LeO.none _
      | refine LeO.ite ?_ ?_
      | refine LeO.bind ?_ (fun _ => ?_)
    · intro y0 y1 y2 y3 y4
      unfold laws_FnMakeWithout.j1
      repeat' first
      | (with_reducible exact ih0 _ _ _ _ _)
      | (with_reducible exact ih1 _ _ _ _ _)
      | (with_reducible exact ih2 _ _ _ _)
      | (with_reducible exact impl_SetHas.mono _ _ _)
      | (with_reducible exact impl_SetTidy.mono _ _)
      | (with_reducible exact spec_DrawMakeWithout.mono _ _)
      | (with_reducible exact spec_MakeWithout.mono _ _ _)
      | (with_reducible exact LeO.refl _)
      | (with_reducible exact LeO.none _)
      | (with_reducible refine LeO.ite ?_ ?_)
      | (with_reducible refine LeO.bind ?_ (fun _ => ?_))
      | exact ih0 _ _ _ _ _
      | exact ih1 _ _ _ _ _
      | exact ih2 _ _ _ _
      | exact impl_SetHas.mono _ _ _
      | exact impl_SetTidy.mono _ _
      | exact spec_DrawMakeWithout.mono _ _
      | exact spec_MakeWithout.mono _ _ _
      | exact LeO.none _
      | refine LeO.ite ?_ ?_
      | refine LeO.bind ?_ (fun _ => ?_)
    · intro y0 y1 y2 y3
      unfold laws_FnMakeWithout.l0
      repeat' first
      | (with_reducible exact ih0 _ _ _ _ _)
      | (with_reducible exact ih1 _ _ _ _ _)
      | (with_reducible exact ih2 _ _ _ _)
      | (with_reducible exact impl_SetHas.mono _ _ _)
      | (with_reducible exact impl_SetTidy.mono _ _)
      | (with_reducible exact spec_DrawMakeWithout.mono _ _)
      | (with_reducible exact spec_MakeWithout.mono _ _ _)
      | (with_reducible exact LeO.refl _)
      | (with_reducible exact LeO.none _)
      | (with_reducible refine LeO.ite ?_ ?_)
      | (with_reducible refine LeO.bind ?_ (fun _ => ?_))
      | exact ih0 _ _ _ _ _
      | exact ih1 _ _ _ _ _
      | exact ih2 _ _ _ _
      | exact impl_SetHas.mono _ _ _
      | exact impl_SetTidy.mono _ _
      | exact spec_DrawMakeWithout.mono _ _
      | exact spec_MakeWithout.mono _ _ _
      | exact LeO.none _
      | refine LeO.ite ?_ ?_
      | refine LeO.bind ?_ (fun _ => ?_)
theorem laws_FnMakeWithout.mono : ∀ a0 k, LeO (laws_FnMakeWithout.f k a0) (laws_FnMakeWithout.f (k + 1) a0) := by
  intro a0 k
  obtain ⟨ih0, ih1, ih2⟩ := laws_FnMakeWithout.mono_l k
  unfold laws_FnMakeWithout.f
  repeat' first
      | (with_reducible exact ih0 _ _ _ _ _)
      | (with_reducible exact ih1 _ _ _ _ _)
      | (with_reducible exact ih2 _ _ _ _)
      | (with_reducible exact impl_SetHas.mono _ _ _)
      | (with_reducible exact impl_SetTidy.mono _ _)
      | (with_reducible exact spec_DrawMakeWithout.mono _ _)
      | (with_reducible exact spec_MakeWithout.mono _ _ _)
      | (with_reducible exact LeO.refl _)
      | (with_reducible exact LeO.none _)
      | (with_reducible refine LeO.ite ?_ ?_)
      | (with_reducible refine LeO.bind ?_ (fun _ => ?_))
      | exact ih0 _ _ _ _ _
      | exact ih1 _ _ _ _ _
      | exact ih2 _ _ _ _
      | exact impl_SetHas.mono _ _ _
      | exact impl_SetTidy.mono _ _
      | exact spec_DrawMakeWithout.mono _ _
      | exact spec_MakeWithout.mono _ _ _
      | exact LeO.none _
      | refine LeO.ite ?_ ?_
      | refine LeO.bind ?_ (fun _ => ?_)
set_option maxHeartbeats 8000000 in
set_option maxRecDepth 100000 in
theorem laws_FnMakeWithout.calls (k : Nat) (A0 : Option Addr) (c0 : Nat) (l0 : List Int) (r : Bool) (w : World) (hr0 : Kd.C (Kd.int .u8) w A0 l0.length l0) (hc0 : l0.length ≤ c0) (h : laws_FnMakeWithout.f k l0 = some r) :
    Calls Try.prog 5 #[.slice A0 l0.length c0] w fun e w' => e = .returned (.bool r) ∧ Below w.heap.size w w' := by
  have HR0 := Aside0.mk hr0
  have HC0 := Aside0.mk hc0
  clear hr0 hc0
  have HB := Aside0.mk (Below.refl w.heap.size w)
  have H : (if (l0.length : Int) > 1048576 then (some true) else ((spec_DrawMakeWithout.f k l0).bind fun bt423 => ((impl_MakeWithout.f bt423.1 bt423.2).bind fun bt425 => ((spec_MakeWithout.f k bt423.1 bt423.2).bind fun bt427 => (if bt425.1.toList = bt427.1.toList then (laws_FnMakeWithout.j0 k bt423.1 bt423.2 bt425.1 bt425.2 (bt425.2 == bt427.2)) else (laws_FnMakeWithout.j0 k bt423.1 bt423.2 bt425.1 bt425.2 false)))))) = some r := h
  clear h
  by_cases c2 : (l0.length : Int) > 1048576
  · rw [if_pos c2] at H
    have c2b0 : decide (1048576 < (l0.length : Int)) = true := decide_eq_true c2
    have c2b1 : decide (1048576 < l0.length) = true := decide_eq_true (by omega)
    clear c2
    obtain rfl := Option.some.inj H
    go_enter Try.func5, Try.ntmps5
    go_wp2
    go_ret
    exact ⟨by first | rfl | (simp [errW_none, errW_some] <;> rfl) | (simp [*, errW_none, errW_some] <;> rfl) | (simp [errW_none, errW_some]; exact ⟨rfl, rfl⟩), by repeat (first | (with_reducible first | exact HB.out | apply below_alloc | apply pw_below_drewN | apply below_drew1) | exact HB.out)⟩
  · rw [if_neg c2] at H
    have c2b0 : decide (1048576 < (l0.length : Int)) = false := decide_eq_false c2
    have c2b1 : decide (1048576 < l0.length) = false := decide_eq_false (by omega)
    clear c2
    replace H := Option.bind_eq_some_iff.mp H
    obtain ⟨⟨t423, t424⟩, A30, H⟩ := H
    replace H : ((impl_MakeWithout.f t423 t424).bind fun bt425 => ((spec_MakeWithout.f k t423 t424).bind fun bt427 => (if bt425.1.toList = bt427.1.toList then (laws_FnMakeWithout.j0 k t423 t424 bt425.1 bt425.2 (bt425.2 == bt427.2)) else (laws_FnMakeWithout.j0 k t423 t424 bt425.1 bt425.2 false)))) = some r := H
    have A3 := Aside0.mk A30
    clear A30
    replace H := Option.bind_eq_some_iff.mp H
    obtain ⟨⟨t425, t426⟩, A40, H⟩ := H
    replace H : ((spec_MakeWithout.f k t423 t424).bind fun bt427 => (if t425.toList = bt427.1.toList then (laws_FnMakeWithout.j0 k t423 t424 t425 t426 (t426 == bt427.2)) else (laws_FnMakeWithout.j0 k t423 t424 t425 t426 false))) = some r := H
    have A4 := Aside0.mk A40
    clear A40
    replace H := Option.bind_eq_some_iff.mp H
    obtain ⟨⟨t427, t428⟩, A50, H⟩ := H
    replace H : (if t425.toList = t427.toList then (laws_FnMakeWithout.j0 k t423 t424 t425 t426 (t426 == t428)) else (laws_FnMakeWithout.j0 k t423 t424 t425 t426 false)) = some r := H
    have A5 := Aside0.mk A50
    clear A50
    have HC6 := Aside0.mk H
    clear H
    go_enter Try.func5, Try.ntmps5
    go_upto_region 6 with (first | ((with_reducible refine gate_callee (f := 17) rfl ?_); refine goesL_ (some 18) rfl rfl Try.func17 (by kernel_rfl) rfl #[.slice A0 l0.length c0] rfl (by (try simp only [List.map_toArray, List.map_cons, List.map_nil]); first | done | rfl | (simp only [List.length_drop, List.length_take]; rfl)) ?_; (with_reducible refine (spec_DrawMakeWithout.calls k _ _ l0 t423 t424 _ ?side1 ?side2 A3.out).mono ?_); (case side1 => repeat (first | exact HR0.out | (with_reducible refine Kd.C_alloc ?_ _) | (with_reducible refine Kd.C_drewN ?_ _) | (with_reducible refine Kd.C_drew ?_))); (case side2 => exact HC0.out); rintro e w7 ⟨rfl, hb⟩; refine ⟨_, rfl, ?_⟩; have n0_ := Aside0.mk (below_step (by repeat (first | (with_reducible first | exact HB.out | apply below_alloc | apply pw_below_drewN | apply below_drew1) | exact HB.out)) hb); clear HB; have HB := n0_; clear n0_; (try clear hb); (try clear hb2); (try clear hk); (try clear hi)) | ((with_reducible refine gate_callee (f := 18) rfl ?_); refine goesL_ (some 24) rfl rfl Try.func18 (by kernel_rfl) rfl #[.string t423, .string t424] rfl (by (try simp only [List.map_toArray, List.map_cons, List.map_nil]); first | done | rfl | (simp only [List.length_drop, List.length_take]; rfl)) ?_; (with_reducible refine (impl_MakeWithout.calls t423 t424 t425 t426 _ A4.out).mono ?_); rintro e w8 ⟨rfl, hb⟩; refine ⟨_, rfl, ?_⟩; have n0_ := Aside0.mk (below_step (by repeat (first | (with_reducible first | exact HB.out | apply below_alloc | apply pw_below_drewN | apply below_drew1) | exact HB.out)) hb); clear HB; have HB := n0_; clear n0_; (try clear hb); (try clear hb2); (try clear hk); (try clear hi)) | ((with_reducible refine gate_callee (f := 19) rfl ?_); refine goesL_ (some 30) rfl rfl Try.func19 (by kernel_rfl) rfl #[.string t423, .string t424] rfl (by (try simp only [List.map_toArray, List.map_cons, List.map_nil]); first | done | rfl | (simp only [List.length_drop, List.length_take]; rfl)) ?_; (with_reducible refine (spec_MakeWithout.calls k t423 t424 t427 t428 _ A5.out).mono ?_); rintro e w9 ⟨rfl, hb⟩; refine ⟨_, rfl, ?_⟩; have n0_ := Aside0.mk (below_step (by repeat (first | (with_reducible first | exact HB.out | apply below_alloc | apply pw_below_drewN | apply below_drew1) | exact HB.out)) hb); clear HB; have HB := n0_; clear n0_; (try clear hb); (try clear hb2); (try clear hk); (try clear hi)))
    (try simp only [Act.put, List.setIfInBounds_toArray, List.set_cons_zero, List.set_cons_succ])
    go_cut [9] (fun v9 wc => ∃ (kq : Nat) (x9_5 : Bool), v9 = .bool x9_5 ∧ Aside0 (laws_FnMakeWithout.j0 kq t423 t424 t425 t426 x9_5 = some r) ∧ Aside0 (kq ≤ k) ∧ Aside0 (Below w.heap.size w wc))
    case first =>
      have H := HC6.out
      clear HC6
      by_cases c10 : t425.toList = t427.toList
      · rw [if_pos c10] at H
        have c10b0 : (t425.toList == t427.toList) = true := beq_iff_eq.mpr c10
        have c10b1 : (t425.toList != t427.toList) = false := bne_eq_false_iff_eq.mpr c10
        clear c10
        (first | rw [c10b0] | (simp only [i64_w, i32_w]; rw [c10b0]) | skip)
        have H' := Aside0.mk H
        clear H
        go_wp2
        go_meet
        case rel => exact ⟨_, ((t426 == t428)), (by first | rfl | (simp; done) | (simp [*]; done) | (simp [Int.tmod_eq_emod_of_nonneg]; done)), H', ⟨by first | omega | exact Nat.le_refl _⟩, ⟨by repeat (first | (with_reducible first | exact HB.out | apply below_alloc | apply pw_below_drewN | apply below_drew1) | exact HB.out)⟩⟩
      · rw [if_neg c10] at H
        have c10b0 : (t425.toList == t427.toList) = false := beq_eq_false_iff_ne.mpr c10
        have c10b1 : (t425.toList != t427.toList) = true := bne_iff_ne.mpr c10
        (first | rw [c10b0] | (simp only [i64_w, i32_w]; rw [c10b0]) | skip)
        have H' := Aside0.mk H
        clear H
        go_wp2
        go_meet
        case rel => exact ⟨_, (false), (by first | rfl | (simp; done) | (simp [*]; done) | (simp [Int.tmod_eq_emod_of_nonneg]; done)), H', ⟨by first | omega | exact Nat.le_refl _⟩, ⟨by repeat (first | (with_reducible first | exact HB.out | apply below_alloc | apply pw_below_drewN | apply below_drew1) | exact HB.out)⟩⟩
    case rest =>
      clear HC6
      try clear c1
      try clear c2
      try clear c2b0
      try clear c2b1
      try clear p2
      try clear c5
      try clear c10
      try clear c10b0
      try clear c10b1
      obtain ⟨kq, x9_5, rfl, HA, HJ5, HB⟩ := hcut
      cases kq with
      | zero => exact absurd HA.out (by simp [laws_FnMakeWithout.j0])
      | succ kj5 =>
        have H := HA.out
        clear HA
        simp only [laws_FnMakeWithout.j0] at H
        have HC11 := Aside0.mk H
        clear H
        go_upto_region 7 with (fail)
        go_cut [46] (fun v46 wc => ∃ (kq : Nat) (x46_10 : Bool), v46 = .bool x46_10 ∧ Aside0 (laws_FnMakeWithout.j1 kq t423 t424 t425 x9_5 x46_10 = some r) ∧ Aside0 (kq ≤ kj5) ∧ Aside0 (Below w.heap.size w wc))
        case first =>
          have H := HC11.out
          clear HC11
          by_cases c12 : x9_5 = true
          · subst c12
            have H1 : (laws_FnMakeWithout.j1 kj5 t423 t424 t425 true (!t426)) = some r := by rw [if_pos rfl] at H; exact H
            clear H
            have H := H1
            clear H1
            have H' := Aside0.mk H
            clear H
            go_wp2
            go_meet
            case rel => exact ⟨_, (!t426), (by first | rfl | (simp; done) | (simp [*]; done) | (simp [Int.tmod_eq_emod_of_nonneg]; done)), H', ⟨by have := HJ5.out; first | omega | exact Nat.le_refl _⟩, ⟨by repeat (first | (with_reducible first | exact HB.out | apply below_alloc | apply pw_below_drewN | apply below_drew1) | exact HB.out)⟩⟩
          · replace c12 := Bool.eq_false_iff.mpr c12
            subst c12
            have H1 : (laws_FnMakeWithout.j1 kj5 t423 t424 t425 false true) = some r := by rw [if_neg (show ¬ (false = true) by decide)] at H; exact H
            clear H
            have H := H1
            clear H1
            have H' := Aside0.mk H
            clear H
            go_wp2
            go_meet
            case rel => exact ⟨_, (true), (by first | rfl | (simp; done) | (simp [*]; done) | (simp [Int.tmod_eq_emod_of_nonneg]; done)), H', ⟨by have := HJ5.out; first | omega | exact Nat.le_refl _⟩, ⟨by repeat (first | (with_reducible first | exact HB.out | apply below_alloc | apply pw_below_drewN | apply below_drew1) | exact HB.out)⟩⟩
        case rest =>
          clear HC11
          try clear c1
          try clear c2
          try clear c2b0
          try clear c2b1
          try clear p2
          try clear c5
          try clear c10
          try clear c10b0
          try clear c10b1
          try clear c12
          try clear p2
          obtain ⟨kq, x46_10, rfl, HA, HJ10, HB⟩ := hcut
          cases kq with
          | zero => exact absurd HA.out (by simp [laws_FnMakeWithout.j1])
          | succ kj10 =>
            have H := HA.out
            clear HA
            simp only [laws_FnMakeWithout.j1] at H
            by_cases c13 : x46_10 = true
            · subst c13
              have H1 : (some x9_5) = some r := by rw [if_pos rfl] at H; exact H
              clear H
              have H := H1
              clear H1
              obtain rfl := Option.some.inj H
              go_wp2
              go_ret
              exact ⟨by first | rfl | (simp [errW_none, errW_some] <;> rfl) | (simp [*, errW_none, errW_some] <;> rfl) | (simp [errW_none, errW_some]; exact ⟨rfl, rfl⟩), by repeat (first | (with_reducible first | exact HB.out | apply below_alloc | apply pw_below_drewN | apply below_drew1) | exact HB.out)⟩
            · replace c13 := Bool.eq_false_iff.mpr c13
              subst c13
              have H1 : (laws_FnMakeWithout.l0 kj10 t423 t424 t425 0) = some r := by rw [if_neg (show ¬ (false = true) by decide)] at H; exact H
              clear H
              have H := H1
              clear H1
              have H' := Aside0.mk H
              clear H
              go_wp2
              go_loopg [10] kj10 (fun kq v10 w' => ∃ (x10_3 : Int), v10 = .int .i64 x10_3 ∧ Aside0 (laws_FnMakeWithout.l0 kq t423 t424 t425 x10_3 = some r) ∧ Aside0 (kq ≤ kj10) ∧ Aside0 (Below w.heap.size w w'))
              case atStart => exact ⟨(0), (by first | rfl | (simp; done) | (simp [*]; done) | (simp [Int.tmod_eq_emod_of_nonneg]; done)), H', ⟨Nat.le_refl _⟩, ⟨by repeat (first | (with_reducible first | exact HB.out | apply below_alloc | apply pw_below_drewN | apply below_drew1) | exact HB.out)⟩⟩
              case round =>
                clear H'
                try clear c1
                try clear c2
                try clear c2b0
                try clear c2b1
                try clear p2
                try clear c5
                try clear c10
                try clear c10b0
                try clear c10b1
                try clear c12
                try clear c13
                try clear p2
                obtain ⟨x10_3, rfl, HA, HK3, HB⟩ := hrel
                cases gk with
                | zero => exact absurd HA.out (by simp [laws_FnMakeWithout.l0])
                | succ k3 =>
                  have H := HA.out
                  clear HA
                  simp only [laws_FnMakeWithout.l0] at H
                  by_cases c14 : x10_3 ≤ 150
                  · rw [if_pos c14] at H
                    have c14b0 : decide (x10_3 ≤ 150) = true := decide_eq_true c14
                    clear c14
                    replace H := Option.bind_eq_some_iff.mp H
                    obtain ⟨t431, A150, H⟩ := H
                    replace H : ((impl_SetHas.f k3 t423 x10_3).bind fun t432 => (if t432 = true then ((impl_SetHas.f k3 t424 x10_3).bind fun t433 => (if (t431 != (!t433)) = true then (some false) else (laws_FnMakeWithout.l0 k3 t423 t424 t425 (wrap64 (x10_3 + 1))))) else (if (t431 != false) = true then (some false) else (laws_FnMakeWithout.l0 k3 t423 t424 t425 (wrap64 (x10_3 + 1)))))) = some r := H
                    have A15 := Aside0.mk A150
                    clear A150
                    replace H := Option.bind_eq_some_iff.mp H
                    obtain ⟨t432, A160, H⟩ := H
                    replace H : (if t432 = true then ((impl_SetHas.f k3 t424 x10_3).bind fun t433 => (if (t431 != (!t433)) = true then (some false) else (laws_FnMakeWithout.l0 k3 t423 t424 t425 (wrap64 (x10_3 + 1))))) else (if (t431 != false) = true then (some false) else (laws_FnMakeWithout.l0 k3 t423 t424 t425 (wrap64 (x10_3 + 1))))) = some r := H
                    have A16 := Aside0.mk A160
                    clear A160
                    by_cases c17 : t432 = true
                    · subst c17
                      have H1 : ((impl_SetHas.f k3 t424 x10_3).bind fun t433 => (if (t431 != (!t433)) = true then (some false) else (laws_FnMakeWithout.l0 k3 t423 t424 t425 (wrap64 (x10_3 + 1))))) = some r := by rw [if_pos rfl] at H; exact H
                      clear H
                      have H := H1
                      clear H1
                      replace H := Option.bind_eq_some_iff.mp H
                      obtain ⟨t433, A180, H⟩ := H
                      replace H : (if (t431 != (!t433)) = true then (some false) else (laws_FnMakeWithout.l0 k3 t423 t424 t425 (wrap64 (x10_3 + 1)))) = some r := H
                      have A18 := Aside0.mk A180
                      clear A180
                      by_cases c19 : (t431 != (!t433)) = true
                      · rw [if_pos c19] at H
                        have c19b0 : (t431 != (!t433)) = true := c19
                        (try (have c19b1 : decide (t431 = (!t433)) = false := by simpa using c19))
                        have c19b2 : (t431 == (!t433)) = false := bne_t c19
                        (try (have c19b3 : ¬ (t431 = (!t433)) := by simpa using c19))
                        clear c19
                        obtain rfl := Option.some.inj H
                        go_wp2_with (first | ((with_reducible refine gate_callee (f := 12) rfl ?_); refine goesL_ (some 54) rfl rfl Try.func12 (by kernel_rfl) rfl #[.string t425, .int .i64 x10_3] rfl (by (try simp only [List.map_toArray, List.map_cons, List.map_nil]); first | done | rfl | (simp only [List.length_drop, List.length_take]; rfl)) ?_; (with_reducible refine (impl_SetHas.calls k3 t425 x10_3 t431 _ A15.out).mono ?_); rintro e w20 ⟨rfl, hb⟩; refine ⟨_, rfl, ?_⟩; have n0_ := Aside0.mk (below_step (by repeat (first | (with_reducible first | exact HB.out | apply below_alloc | apply pw_below_drewN | apply below_drew1) | exact HB.out)) hb); clear HB; have HB := n0_; clear n0_; (try clear hb); (try clear hb2); (try clear hk); (try clear hi)) | ((with_reducible refine gate_callee (f := 12) rfl ?_); refine goesL_ (some 57) rfl rfl Try.func12 (by kernel_rfl) rfl #[.string t423, .int .i64 x10_3] rfl (by (try simp only [List.map_toArray, List.map_cons, List.map_nil]); first | done | rfl | (simp only [List.length_drop, List.length_take]; rfl)) ?_; (with_reducible refine (impl_SetHas.calls k3 t423 x10_3 true _ A16.out).mono ?_); rintro e w21 ⟨rfl, hb⟩; refine ⟨_, rfl, ?_⟩; have n0_ := Aside0.mk (below_step (by repeat (first | (with_reducible first | exact HB.out | apply below_alloc | apply pw_below_drewN | apply below_drew1) | exact HB.out)) hb); clear HB; have HB := n0_; clear n0_; (try clear hb); (try clear hb2); (try clear hk); (try clear hi)) | (go_at_call 12; (with_reducible refine (impl_SetHas.calls k3 t424 x10_3 t433 _ A18.out).mono ?_); rintro e w22 ⟨rfl, hb⟩; have n0_ := Aside0.mk (below_step (by repeat (first | (with_reducible first | exact HB.out | apply below_alloc | apply pw_below_drewN | apply below_drew1) | exact HB.out)) hb); clear HB; have HB := n0_; clear n0_; (try clear hb); (try clear hb2); (try clear hk); (try clear hi)))
                        go_ret
                        exact ⟨by first | rfl | (simp [errW_none, errW_some] <;> rfl) | (simp [*, errW_none, errW_some] <;> rfl) | (simp [errW_none, errW_some]; exact ⟨rfl, rfl⟩), by repeat (first | (with_reducible first | exact HB.out | apply below_alloc | apply pw_below_drewN | apply below_drew1) | exact HB.out)⟩
                      · rw [if_neg c19] at H
                        have c19b0 : (t431 != (!t433)) = false := by simpa using c19
                        (try (have c19b1 : decide (t431 = (!t433)) = true := by simpa using c19))
                        have c19b2 : (t431 == (!t433)) = true := bne_f c19
                        clear c19
                        have H' := Aside0.mk H
                        clear H
                        go_wp2_with (first | ((with_reducible refine gate_callee (f := 12) rfl ?_); refine goesL_ (some 54) rfl rfl Try.func12 (by kernel_rfl) rfl #[.string t425, .int .i64 x10_3] rfl (by (try simp only [List.map_toArray, List.map_cons, List.map_nil]); first | done | rfl | (simp only [List.length_drop, List.length_take]; rfl)) ?_; (with_reducible refine (impl_SetHas.calls k3 t425 x10_3 t431 _ A15.out).mono ?_); rintro e w23 ⟨rfl, hb⟩; refine ⟨_, rfl, ?_⟩; have n0_ := Aside0.mk (below_step (by repeat (first | (with_reducible first | exact HB.out | apply below_alloc | apply pw_below_drewN | apply below_drew1) | exact HB.out)) hb); clear HB; have HB := n0_; clear n0_; (try clear hb); (try clear hb2); (try clear hk); (try clear hi)) | ((with_reducible refine gate_callee (f := 12) rfl ?_); refine goesL_ (some 57) rfl rfl Try.func12 (by kernel_rfl) rfl #[.string t423, .int .i64 x10_3] rfl (by (try simp only [List.map_toArray, List.map_cons, List.map_nil]); first | done | rfl | (simp only [List.length_drop, List.length_take]; rfl)) ?_; (with_reducible refine (impl_SetHas.calls k3 t423 x10_3 true _ A16.out).mono ?_); rintro e w24 ⟨rfl, hb⟩; refine ⟨_, rfl, ?_⟩; have n0_ := Aside0.mk (below_step (by repeat (first | (with_reducible first | exact HB.out | apply below_alloc | apply pw_below_drewN | apply below_drew1) | exact HB.out)) hb); clear HB; have HB := n0_; clear n0_; (try clear hb); (try clear hb2); (try clear hk); (try clear hi)) | (go_at_call 12; (with_reducible refine (impl_SetHas.calls k3 t424 x10_3 t433 _ A18.out).mono ?_); rintro e w25 ⟨rfl, hb⟩; have n0_ := Aside0.mk (below_step (by repeat (first | (with_reducible first | exact HB.out | apply below_alloc | apply pw_below_drewN | apply below_drew1) | exact HB.out)) hb); clear HB; have HB := n0_; clear n0_; (try clear hb); (try clear hb2); (try clear hk); (try clear hi)))
                        go_roundg k3
                        case measure => have := HJ5.out; have := HJ10.out; have := HK3.out; omega
                        case rel => exact ⟨(wrap64 (x10_3 + 1)), (by first | rfl | (simp; done) | (simp [*]; done) | (simp [Int.tmod_eq_emod_of_nonneg]; done)), H', ⟨by have := HJ5.out; have := HJ10.out; have := HK3.out; omega⟩, ⟨by repeat (first | (with_reducible first | exact HB.out | apply below_alloc | apply pw_below_drewN | apply below_drew1) | exact HB.out)⟩⟩
                    · replace c17 := Bool.eq_false_iff.mpr c17
                      subst c17
                      have H1 : (if (t431 != false) = true then (some false) else (laws_FnMakeWithout.l0 k3 t423 t424 t425 (wrap64 (x10_3 + 1)))) = some r := by rw [if_neg (show ¬ (false = true) by decide)] at H; exact H
                      clear H
                      have H := H1
                      clear H1
                      by_cases c26 : (t431 != false) = true
                      · rw [if_pos c26] at H
                        have c26b0 : (t431 != false) = true := c26
                        (try (have c26b1 : decide (t431 = false) = false := by simpa using c26))
                        (try (have c26b2 : (t431 == false) = false := by simpa using c26))
                        (try (have c26b3 : ¬ (t431 = false) := by simpa using c26))
                        clear c26
                        obtain rfl := Option.some.inj H
                        go_wp2_with (first | ((with_reducible refine gate_callee (f := 12) rfl ?_); refine goesL_ (some 54) rfl rfl Try.func12 (by kernel_rfl) rfl #[.string t425, .int .i64 x10_3] rfl (by (try simp only [List.map_toArray, List.map_cons, List.map_nil]); first | done | rfl | (simp only [List.length_drop, List.length_take]; rfl)) ?_; (with_reducible refine (impl_SetHas.calls k3 t425 x10_3 t431 _ A15.out).mono ?_); rintro e w27 ⟨rfl, hb⟩; refine ⟨_, rfl, ?_⟩; have n0_ := Aside0.mk (below_step (by repeat (first | (with_reducible first | exact HB.out | apply below_alloc | apply pw_below_drewN | apply below_drew1) | exact HB.out)) hb); clear HB; have HB := n0_; clear n0_; (try clear hb); (try clear hb2); (try clear hk); (try clear hi)) | ((with_reducible refine gate_callee (f := 12) rfl ?_); refine goesL_ (some 57) rfl rfl Try.func12 (by kernel_rfl) rfl #[.string t423, .int .i64 x10_3] rfl (by (try simp only [List.map_toArray, List.map_cons, List.map_nil]); first | done | rfl | (simp only [List.length_drop, List.length_take]; rfl)) ?_; (with_reducible refine (impl_SetHas.calls k3 t423 x10_3 false _ A16.out).mono ?_); rintro e w28 ⟨rfl, hb⟩; refine ⟨_, rfl, ?_⟩; have n0_ := Aside0.mk (below_step (by repeat (first | (with_reducible first | exact HB.out | apply below_alloc | apply pw_below_drewN | apply below_drew1) | exact HB.out)) hb); clear HB; have HB := n0_; clear n0_; (try clear hb); (try clear hb2); (try clear hk); (try clear hi)))
                        go_ret
                        exact ⟨by first | rfl | (simp [errW_none, errW_some] <;> rfl) | (simp [*, errW_none, errW_some] <;> rfl) | (simp [errW_none, errW_some]; exact ⟨rfl, rfl⟩), by repeat (first | (with_reducible first | exact HB.out | apply below_alloc | apply pw_below_drewN | apply below_drew1) | exact HB.out)⟩
                      · rw [if_neg c26] at H
                        have c26b0 : (t431 != false) = false := by simpa using c26
                        (try (have c26b1 : decide (t431 = false) = true := by simpa using c26))
                        (try (have c26b2 : (t431 == false) = true := by simpa using c26))
                        clear c26
                        have H' := Aside0.mk H
                        clear H
                        go_wp2_with (first | ((with_reducible refine gate_callee (f := 12) rfl ?_); refine goesL_ (some 54) rfl rfl Try.func12 (by kernel_rfl) rfl #[.string t425, .int .i64 x10_3] rfl (by (try simp only [List.map_toArray, List.map_cons, List.map_nil]); first | done | rfl | (simp only [List.length_drop, List.length_take]; rfl)) ?_; (with_reducible refine (impl_SetHas.calls k3 t425 x10_3 t431 _ A15.out).mono ?_); rintro e w29 ⟨rfl, hb⟩; refine ⟨_, rfl, ?_⟩; have n0_ := Aside0.mk (below_step (by repeat (first | (with_reducible first | exact HB.out | apply below_alloc | apply pw_below_drewN | apply below_drew1) | exact HB.out)) hb); clear HB; have HB := n0_; clear n0_; (try clear hb); (try clear hb2); (try clear hk); (try clear hi)) | ((with_reducible refine gate_callee (f := 12) rfl ?_); refine goesL_ (some 57) rfl rfl Try.func12 (by kernel_rfl) rfl #[.string t423, .int .i64 x10_3] rfl (by (try simp only [List.map_toArray, List.map_cons, List.map_nil]); first | done | rfl | (simp only [List.length_drop, List.length_take]; rfl)) ?_; (with_reducible refine (impl_SetHas.calls k3 t423 x10_3 false _ A16.out).mono ?_); rintro e w30 ⟨rfl, hb⟩; refine ⟨_, rfl, ?_⟩; have n0_ := Aside0.mk (below_step (by repeat (first | (with_reducible first | exact HB.out | apply below_alloc | apply pw_below_drewN | apply below_drew1) | exact HB.out)) hb); clear HB; have HB := n0_; clear n0_; (try clear hb); (try clear hb2); (try clear hk); (try clear hi)))
                        go_roundg k3
                        case measure => have := HJ5.out; have := HJ10.out; have := HK3.out; omega
                        case rel => exact ⟨(wrap64 (x10_3 + 1)), (by first | rfl | (simp; done) | (simp [*]; done) | (simp [Int.tmod_eq_emod_of_nonneg]; done)), H', ⟨by have := HJ5.out; have := HJ10.out; have := HK3.out; omega⟩, ⟨by repeat (first | (with_reducible first | exact HB.out | apply below_alloc | apply pw_below_drewN | apply below_drew1) | exact HB.out)⟩⟩
                  · rw [if_neg c14] at H
                    have c14b0 : decide (x10_3 ≤ 150) = false := decide_eq_false c14
                    clear c14
                    replace H := Option.bind_eq_some_iff.mp H
                    obtain ⟨⟨t429, t430⟩, A310, H⟩ := H
                    replace H : (if t430 = true then (some (t429.toList == t425.toList)) else (some false)) = some r := H
                    have A31 := Aside0.mk A310
                    clear A310
                    by_cases c32 : t430 = true
                    · subst c32
                      have H1 : (some (t429.toList == t425.toList)) = some r := by rw [if_pos rfl] at H; exact H
                      clear H
                      have H := H1
                      clear H1
                      obtain rfl := Option.some.inj H
                      go_wp2_with (first | ((with_reducible refine gate_callee (f := 13) rfl ?_); refine goesL_ (some 67) rfl rfl Try.func13 (by kernel_rfl) rfl #[.string t425] rfl (by (try simp only [List.map_toArray, List.map_cons, List.map_nil]); first | done | rfl | (simp only [List.length_drop, List.length_take]; rfl)) ?_; (with_reducible refine (impl_SetTidy.calls k3 t425 t429 true _ A31.out).mono ?_); rintro e w33 ⟨rfl, hb⟩; refine ⟨_, rfl, ?_⟩; have n0_ := Aside0.mk (below_step (by repeat (first | (with_reducible first | exact HB.out | apply below_alloc | apply pw_below_drewN | apply below_drew1) | exact HB.out)) hb); clear HB; have HB := n0_; clear n0_; (try clear hb); (try clear hb2); (try clear hk); (try clear hi)))
                      go_ret
                      exact ⟨by first | rfl | (simp [errW_none, errW_some] <;> rfl) | (simp [*, errW_none, errW_some] <;> rfl) | (simp [errW_none, errW_some]; exact ⟨rfl, rfl⟩), by repeat (first | (with_reducible first | exact HB.out | apply below_alloc | apply pw_below_drewN | apply below_drew1) | exact HB.out)⟩
                    · replace c32 := Bool.eq_false_iff.mpr c32
                      subst c32
                      have H1 : (some false) = some r := by rw [if_neg (show ¬ (false = true) by decide)] at H; exact H
                      clear H
                      have H := H1
                      clear H1
                      obtain rfl := Option.some.inj H
                      go_wp2_with (first | ((with_reducible refine gate_callee (f := 13) rfl ?_); refine goesL_ (some 67) rfl rfl Try.func13 (by kernel_rfl) rfl #[.string t425] rfl (by (try simp only [List.map_toArray, List.map_cons, List.map_nil]); first | done | rfl | (simp only [List.length_drop, List.length_take]; rfl)) ?_; (with_reducible refine (impl_SetTidy.calls k3 t425 t429 false _ A31.out).mono ?_); rintro e w34 ⟨rfl, hb⟩; refine ⟨_, rfl, ?_⟩; have n0_ := Aside0.mk (below_step (by repeat (first | (with_reducible first | exact HB.out | apply below_alloc | apply pw_below_drewN | apply below_drew1) | exact HB.out)) hb); clear HB; have HB := n0_; clear n0_; (try clear hb); (try clear hb2); (try clear hk); (try clear hi)))
                      go_ret
                      exact ⟨by first | rfl | (simp [errW_none, errW_some] <;> rfl) | (simp [*, errW_none, errW_some] <;> rfl) | (simp [errW_none, errW_some]; exact ⟨rfl, rfl⟩), by repeat (first | (with_reducible first | exact HB.out | apply below_alloc | apply pw_below_drewN | apply below_drew1) | exact HB.out)⟩

/-- THE ONE PURE STATEMENT of laws_FnMakeWithout: yours. -/
noncomputable def laws_FnMakeWithout.Pure : Prop := ∀ (l0 : List Int), l0.length ≤ maxLen → l0.length * 1 ≤ 140737488351232 → (∀ x ∈ l0, (Lit.int .u8 x).wf = true) → ∃ k, laws_FnMakeWithout.f k l0 = some true
theorem laws_FnMakeWithout.walk (P : laws_FnMakeWithout.Pure) (a0 : Option Addr) (len0 cap0 : Nat) (z0 : List Int) (w : World) (w0 : (a0 = none ∧ len0 = 0 ∧ cap0 = 0 ∧ z0 = []) ∨ ∃ x, a0 = some x ∧ len0 ≤ cap0 ∧ cap0 ≤ maxLen ∧ z0.length = cap0 ∧ (∀ i, i < z0.length → w.cell? (x.add i) = some (.int .u8 (z0.getD i 0))) ∧ ∀ n ∈ z0, (Lit.int .u8 n).wf = true) (y0 : len0 * 1 ≤ 140737488351232) :
    Calls Try.prog 5 #[.slice a0 len0 cap0] w fun e w' => e = .returned (.bool true) ∧ Below w.heap.size w w' := by
  obtain ⟨l0, rfl, hr0, hm0, hw0, hc0⟩ := ReadsInt.ofRowC w0
  obtain ⟨k, h⟩ := P l0 hm0 y0 hw0
  refine (laws_FnMakeWithout.calls k _ _ l0 true w (Kd.C_of_reads (d := (0 : Int)) (h1 := fun _ => rfl) hr0) hc0 h).mono ?_
  rintro e w' ⟨rfl, hd⟩
  exact ⟨rfl, hd⟩

end Go.Proofs.Ytfoolgjofinmlaa.P

-- spec.MakeWithout.
namespace Go.Proofs.Ytfoolgjofinmlaa.P
open Go.RowKit Go.Proofs.YtfoolgjofinmlaaW.PrintWords Go.Proofs.YtfoolgjofinmlaaW.PrintLast Go.Proofs.YtfoolgjofinmlaaW.PrintMore
set_option linter.unusedVariables false
set_option linter.unusedSimpArgs false

theorem tells_without : Tells 4 (fun x y => x && !y) := fun x y => by cases x <;> cases y <;> decide +kernel
theorem smakeWithout_f (s t : ByteArray) (hs : s.size ≤ 70368744177664) (ht : t.size ≤ 70368744177664) : Ev (fun k => spec_MakeWithout.f k s t) (two (fun x y => x && !y) (chrs s) (chrs t)) :=
  Ev.congr (fun k => rfl) (Ev.bind (two_f 4 _ tells_without s t hs ht) (Ev.now _))
end Go.Proofs.Ytfoolgjofinmlaa.P

-- For every code the law FnMakeWithout holds.
namespace Go.Proofs.Ytfoolgjofinmlaa.P
open Go.RowKit Go.Proofs.YtfoolgjofinmlaaW.PrintWords Go.Proofs.YtfoolgjofinmlaaW.PrintLast Go.Proofs.YtfoolgjofinmlaaW.PrintMore
set_option linter.unusedVariables false
set_option linter.unusedSimpArgs false

theorem drawWithout_f (l : List Int) (h : ∀ x ∈ l, (Lit.int .u8 x).wf = true) : ∃ (s t : ByteArray), Few s ∧ Few t ∧ Ev (fun k => spec_DrawMakeWithout.f k l) (s, t) := by
  obtain ⟨s, q, hf, hq, K0, h0⟩ := set91_f (code_of h) 0 (by omega)
  dsimp only at h0
  have g0 : ∀ k, K0 ≤ k → spec_l91Set.f k (l.take 2000) 0 = some (s, (q : Int)) := h0
  obtain ⟨t, q2, hf2, hq2, K1, h1⟩ := set91_f (code_of h) q (by omega)
  dsimp only at h1
  have g1 : ∀ k, K1 ≤ k → spec_l91Set.f k (l.take 2000) (q : Int) = some (t, (q2 : Int)) := h1
  refine ⟨s, t, hf, hf2, K0 + K1, fun k hk => ?_⟩
  dsimp only
  unfold spec_DrawMakeWithout.f
  rw [open_f, Option.bind_some, g0 k (by omega), Option.bind_some, g1 k (by omega), Option.bind_some]
theorem lawMakeWithout_l0 (s t x0 : ByteArray) (hs : s.size ≤ 70368744177664) (ht : t.size ≤ 70368744177664) (hx : x0.size ≤ 122) (hq : setf (chrs x0) = fun n => (fun x y : Bool => x && !y) (setf (chrs s) n) (setf (chrs t) n)) (hty : tdy (chrs x0) = (x0, true)) : ∀ (d n : Nat), n ≤ 151 → 151 - n = d →
    Ev (fun k => laws_FnMakeWithout.l0 k s t x0 n) true := by
  intro d
  induction d with
  | zero =>
    intro n hn hd
    have e : n = 151 := by omega
    subst e
    obtain ⟨K, hK⟩ := tdy_again x0 hx hty
    dsimp only at hK
    refine ⟨K + 1, fun k hk => ?_⟩
    obtain ⟨k, rfl, hk2⟩ := down1 hk
    simp only [laws_FnMakeWithout.l0]
    rw [if_neg (by omega), hK k hk2, Option.bind_some, if_pos (by trivial), BEq.rfl]
  | succ d ih =>
    intro n hn hd
    obtain ⟨K3, h3⟩ := ih (n + 1) (by omega) (by omega)
    dsimp only at h3
    obtain ⟨K1, h1⟩ := isetHas_f x0 (by omega) n (by omega)
    dsimp only at h1
    rw [hq] at h1
    dsimp only at h1
    obtain ⟨K2, h2⟩ := isetHas_f s hs n (by omega)
    dsimp only at h2
    cases hx : setf (chrs s) n with
    | true =>
      rw [hx] at h1 h2
      have h1 : ∀ k, K1 ≤ k → impl_SetHas.f k x0 n = some (!setf (chrs t) n) := h1
      obtain ⟨K4, h4⟩ := isetHas_f t ht n (by omega)
      dsimp only at h4
      refine ⟨K1 + K2 + K3 + K4 + 1, fun k hk => ?_⟩
      obtain ⟨k, rfl, hk2⟩ := down1 hk
      simp only [laws_FnMakeWithout.l0]
      rw [if_pos (by omega), h1 k (by omega), Option.bind_some, h2 k (by omega), Option.bind_some, if_pos (by trivial), h4 k (by omega), Option.bind_some, if_neg (bne_no _), wsucc (by omega)]
      exact h3 k (by omega)
    | false =>
      rw [hx] at h1 h2
      have h1 : ∀ k, K1 ≤ k → impl_SetHas.f k x0 n = some false := h1
      refine ⟨K1 + K2 + K3 + 1, fun k hk => ?_⟩
      obtain ⟨k, rfl, hk2⟩ := down1 hk
      simp only [laws_FnMakeWithout.l0]
      rw [if_pos (by omega), h1 k (by omega), Option.bind_some, h2 k (by omega), Option.bind_some, if_neg (by decide), if_neg (bne_no _), wsucc (by omega)]
      exact h3 k (by omega)
theorem lawMakeWithout_ev (l : List Int) (h : ∀ x ∈ l, (Lit.int .u8 x).wf = true) : Ev (fun k => laws_FnMakeWithout.f k l) true := by
  by_cases hl : (l.length : Int) > 1048576
  · exact ⟨0, fun k _ => by dsimp only; unfold laws_FnMakeWithout.f; rw [if_pos hl]⟩
  · obtain ⟨s, t, hf, hf2, K1, h1⟩ := drawWithout_f l h
    dsimp only at h1
    have hz := hf.size
    have hz2 := hf2.size
    have hs : s.size ≤ 70368744177664 := by omega
    have ht : t.size ≤ 70368744177664 := by omega
    obtain ⟨K2, h2⟩ := smakeWithout_f s t hs ht
    dsimp only at h2
    have h3 := makeWithout_f s t hs ht
    have main : Ev (fun k => laws_FnMakeWithout.j0 k s t (two (fun x y => x && !y) (chrs s) (chrs t)).1 (two (fun x y => x && !y) (chrs s) (chrs t)).2 true) true := by
      cases h4 : (two (fun x y => x && !y) (chrs s) (chrs t)).2 with
      | false =>
        refine Ev.step (f := fun k => laws_FnMakeWithout.j1 k s t (two (fun x y => x && !y) (chrs s) (chrs t)).1 true true) (fun k => ?_) (Ev.step (f := fun k => some true) (fun k => ?_) (Ev.now _))
        · simp only [laws_FnMakeWithout.j0]; rfl
        · simp only [laws_FnMakeWithout.j1]; rfl
      | true =>
        obtain ⟨m, p, hp0, hper, he, hA⟩ := two_ok h4
        rw [he]
        refine Ev.step (f := fun k => laws_FnMakeWithout.j1 k s t (txt (cn fun n => (fun x y : Bool => x && !y) (setf (chrs s) n) (setf (chrs t) n))).1 true false) (fun k => ?_) (Ev.step (fun k => ?_) (lawMakeWithout_l0 s t _ hs ht (txt_size _) (txt_setf hp0 hper hA) (txt_tdy hp0 hper hA) _ 0 (by omega) rfl))
        · simp only [laws_FnMakeWithout.j0]; rfl
        · simp only [laws_FnMakeWithout.j1]; rfl
    obtain ⟨K4, h4⟩ := main
    dsimp only at h4
    refine ⟨K1 + K2 + K4, fun k hk => ?_⟩
    dsimp only
    unfold laws_FnMakeWithout.f
    rw [if_neg hl, h1 k (by omega), Option.bind_some]
    try dsimp only
    rw [h3, Option.bind_some, h2 k (by omega), Option.bind_some, if_pos (by trivial), BEq.rfl]
    exact h4 k (by omega)
theorem lawMakeWithout_pure : laws_FnMakeWithout.Pure := fun l _ _ h => (lawMakeWithout_ev l h).rounds
end Go.Proofs.Ytfoolgjofinmlaa.P

-- For every code the law FnMakeWithout holds.
namespace Go.Proofs.Ytfoolgjofinmlaa.Pure
theorem FnMakeWithout : Go.Proofs.Ytfoolgjofinmlaa.P.laws_FnMakeWithout.Pure := Go.Proofs.Ytfoolgjofinmlaa.P.lawMakeWithout_pure
end Go.Proofs.Ytfoolgjofinmlaa.Pure
