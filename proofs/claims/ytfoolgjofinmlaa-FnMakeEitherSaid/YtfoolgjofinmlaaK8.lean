/- What these laws reach, joined by a program of this session: contracts (written by that program over the kit's print, or by hand) and plain lemmas. -/
import Derived.Test.YtfoolgjofinmlaaK1
import Derived.Test.YtfoolgjofinmlaaK4
import Derived.Test.YtfoolgjofinmlaaK5
import Derived.Test.YtfoolgjofinmlaaK6
namespace Go.Proofs.Ytfoolgjofinmlaa.P
open Go.RowKit Go.Proofs.YtfoolgjofinmlaaW.PrintWords Go.Proofs.YtfoolgjofinmlaaW.PrintLast Go.Proofs.YtfoolgjofinmlaaW.PrintMore
attribute [local go_sem] max2_int min2_int max_two min_two max_three min_three max_four min_four   -- for this text's walks alone
set_option linter.unusedVariables false
set_option linter.unusedSimpArgs false

/-! ### laws_FnMakeEither: function 4 -/
mutual
noncomputable def laws_FnMakeEither.j0 : Nat → ByteArray → ByteArray → ByteArray → Bool → Bool → Option (Bool)
  | 0, _, _, _, _, _ => none
  | k + 1, x3, x4, x5, x6, x9 => if x9 = true then (laws_FnMakeEither.j1 k x3 x4 x5 x9 (!x6)) else (laws_FnMakeEither.j1 k x3 x4 x5 x9 true)
noncomputable def laws_FnMakeEither.j1 : Nat → ByteArray → ByteArray → ByteArray → Bool → Bool → Option (Bool)
  | 0, _, _, _, _, _ => none
  | k + 1, x3, x4, x5, x9, x46 => if x46 = true then (some x9) else (laws_FnMakeEither.l0 k x3 x4 x5 0)
noncomputable def laws_FnMakeEither.l0 : Nat → ByteArray → ByteArray → ByteArray → Int → Option (Bool)
  | 0, _, _, _, _ => none
  | k + 1, x3, x4, x5, x10 => if x10 ≤ 150 then ((impl_SetHas.f k x5 x10).bind fun t411 => ((impl_SetHas.f k x3 x10).bind fun t412 => (if t412 = true then (if (t411 != true) = true then (some false) else (laws_FnMakeEither.l0 k x3 x4 x5 (wrap64 (x10 + 1)))) else ((impl_SetHas.f k x4 x10).bind fun t413 => (if (t411 != t413) = true then (some false) else (laws_FnMakeEither.l0 k x3 x4 x5 (wrap64 (x10 + 1)))))))) else ((impl_SetTidy.f k x5).bind fun bt409 => (if bt409.2 = true then (some (bt409.1.toList == x5.toList)) else (some false)))
end
noncomputable def laws_FnMakeEither.f (k : Nat) (l0 : List Int) : Option (Bool) := if (l0.length : Int) > 1048576 then (some true) else ((spec_DrawMakeEither.f k l0).bind fun bt403 => ((impl_MakeEither.f bt403.1 bt403.2).bind fun bt405 => ((spec_MakeEither.f k bt403.1 bt403.2).bind fun bt407 => (if bt405.1.toList = bt407.1.toList then (laws_FnMakeEither.j0 k bt403.1 bt403.2 bt405.1 bt405.2 (bt405.2 == bt407.2)) else (laws_FnMakeEither.j0 k bt403.1 bt403.2 bt405.1 bt405.2 false)))))
theorem laws_FnMakeEither.mono_l : ∀ k, (∀ y0 y1 y2 y3 y4, LeO (laws_FnMakeEither.j0 k y0 y1 y2 y3 y4) (laws_FnMakeEither.j0 (k + 1) y0 y1 y2 y3 y4)) ∧ (∀ y0 y1 y2 y3 y4, LeO (laws_FnMakeEither.j1 k y0 y1 y2 y3 y4) (laws_FnMakeEither.j1 (k + 1) y0 y1 y2 y3 y4)) ∧ (∀ y0 y1 y2 y3, LeO (laws_FnMakeEither.l0 k y0 y1 y2 y3) (laws_FnMakeEither.l0 (k + 1) y0 y1 y2 y3))
  | 0 => ⟨fun _ _ _ _ _ r h => by simp [laws_FnMakeEither.j0] at h, fun _ _ _ _ _ r h => by simp [laws_FnMakeEither.j1] at h, fun _ _ _ _ r h => by simp [laws_FnMakeEither.l0] at h⟩
  | k + 1 => by
    obtain ⟨ih0, ih1, ih2⟩ := laws_FnMakeEither.mono_l k
    refine ⟨?_, ?_, ?_⟩
    · intro y0 y1 y2 y3 y4
      unfold laws_FnMakeEither.j0
      repeat' first
      | (with_reducible exact ih0 _ _ _ _ _)
      | (with_reducible exact ih1 _ _ _ _ _)
      | (with_reducible exact ih2 _ _ _ _)
      | (with_reducible exact impl_SetHas.mono _ _ _)
      | (with_reducible exact impl_SetTidy.mono _ _)
      | (with_reducible exact spec_DrawMakeEither.mono _ _)
      | (with_reducible exact spec_MakeEither.mono _ _ _)
      | (with_reducible exact LeO.refl _)
      | (with_reducible exact LeO.none _)
      | (with_reducible refine LeO.ite ?_ ?_)
      | (with_reducible refine LeO.bind ?_ (fun _ => ?_))
      | exact ih0 _ _ _ _ _
      | exact ih1 _ _ _ _ _
      | exact ih2 _ _ _ _
      | exact impl_SetHas.mono _ _ _
      | exact impl_SetTidy.mono _ _
      | exact spec_DrawMakeEither.mono _ _
      | exact spec_MakeEither.mono _ _ _
      | exact LeO.none _
      | refine LeO.ite ?_ ?_
      | refine LeO.bind ?_ (fun _ => ?_)
    · intro y0 y1 y2 y3 y4
      unfold laws_FnMakeEither.j1
      repeat' first
      | (with_reducible exact ih0 _ _ _ _ _)
      | (with_reducible exact ih1 _ _ _ _ _)
      | (with_reducible exact ih2 _ _ _ _)
      | (with_reducible exact impl_SetHas.mono _ _ _)
      | (with_reducible exact impl_SetTidy.mono _ _)
      | (with_reducible exact spec_DrawMakeEither.mono _ _)
      | (with_reducible exact spec_MakeEither.mono _ _ _)
      | (with_reducible exact LeO.refl _)
      | (with_reducible exact LeO.none _)
      | (with_reducible refine LeO.ite ?_ ?_)
      | (with_reducible refine LeO.bind ?_ (fun _ => ?_))
      | exact ih0 _ _ _ _ _
      | exact ih1 _ _ _ _ _
      | exact ih2 _ _ _ _
      | exact impl_SetHas.mono _ _ _
      | exact impl_SetTidy.mono _ _
      | exact spec_DrawMakeEither.mono _ _
      | exact spec_MakeEither.mono _ _ _
      | exact LeO.none _
      | refine LeO.ite ?_ ?_
      | refine LeO.bind ?_ (fun _ => ?_)
    · intro y0 y1 y2 y3
      unfold laws_FnMakeEither.l0
      repeat' first
      | (with_reducible exact ih0 _ _ _ _ _)
      | (with_reducible exact ih1 _ _ _ _ _)
      | (with_reducible exact ih2 _ _ _ _)
      | (with_reducible exact impl_SetHas.mono _ _ _)
      | (with_reducible exact impl_SetTidy.mono _ _)
      | (with_reducible exact spec_DrawMakeEither.mono _ _)
      | (with_reducible exact spec_MakeEither.mono _ _ _)
      | (with_reducible exact LeO.refl _)
      | (with_reducible exact LeO.none _)
      | (with_reducible refine LeO.ite ?_ ?_)
      | (with_reducible refine LeO.bind ?_ (fun _ => ?_))
      | exact ih0 _ _ _ _ _
      | exact ih1 _ _ _ _ _
      | exact ih2 _ _ _ _
      | exact impl_SetHas.mono _ _ _
      | exact impl_SetTidy.mono _ _
      | exact spec_DrawMakeEither.mono _ _
      | exact spec_MakeEither.mono _ _ _
      | exact LeO.none _
      | refine LeO.ite ?_ ?_
      | refine LeO.bind ?_ (fun _ => ?_)
theorem laws_FnMakeEither.mono : ∀ a0 k, LeO (laws_FnMakeEither.f k a0) (laws_FnMakeEither.f (k + 1) a0) := by
  intro a0 k
  obtain ⟨ih0, ih1, ih2⟩ := laws_FnMakeEither.mono_l k
  unfold laws_FnMakeEither.f
  repeat' first
      | (with_reducible exact ih0 _ _ _ _ _)
      | (with_reducible exact ih1 _ _ _ _ _)
      | (with_reducible exact ih2 _ _ _ _)
      | (with_reducible exact impl_SetHas.mono _ _ _)
      | (with_reducible exact impl_SetTidy.mono _ _)
      | (with_reducible exact spec_DrawMakeEither.mono _ _)
      | (with_reducible exact spec_MakeEither.mono _ _ _)
      | (with_reducible exact LeO.refl _)
      | (with_reducible exact LeO.none _)
      | (with_reducible refine LeO.ite ?_ ?_)
      | (with_reducible refine LeO.bind ?_ (fun _ => ?_))
      | exact ih0 _ _ _ _ _
      | exact ih1 _ _ _ _ _
      | exact ih2 _ _ _ _
      | exact impl_SetHas.mono _ _ _
      | exact impl_SetTidy.mono _ _
      | exact spec_DrawMakeEither.mono _ _
      | exact spec_MakeEither.mono _ _ _
      | exact LeO.none _
      | refine LeO.ite ?_ ?_
      | refine LeO.bind ?_ (fun _ => ?_)
set_option maxHeartbeats 8000000 in
set_option maxRecDepth 100000 in
theorem laws_FnMakeEither.calls (k : Nat) (A0 : Option Addr) (c0 : Nat) (l0 : List Int) (r : Bool) (w : World) (hr0 : Kd.C (Kd.int .u8) w A0 l0.length l0) (hc0 : l0.length ≤ c0) (h : laws_FnMakeEither.f k l0 = some r) :
    Calls Try.prog 4 #[.slice A0 l0.length c0] w fun e w' => e = .returned (.bool r) ∧ Below w.heap.size w w' := by
  have HR0 := Aside0.mk hr0
  have HC0 := Aside0.mk hc0
  clear hr0 hc0
  have HB := Aside0.mk (Below.refl w.heap.size w)
  have H : (if (l0.length : Int) > 1048576 then (some true) else ((spec_DrawMakeEither.f k l0).bind fun bt403 => ((impl_MakeEither.f bt403.1 bt403.2).bind fun bt405 => ((spec_MakeEither.f k bt403.1 bt403.2).bind fun bt407 => (if bt405.1.toList = bt407.1.toList then (laws_FnMakeEither.j0 k bt403.1 bt403.2 bt405.1 bt405.2 (bt405.2 == bt407.2)) else (laws_FnMakeEither.j0 k bt403.1 bt403.2 bt405.1 bt405.2 false)))))) = some r := h
  clear h
  by_cases c2 : (l0.length : Int) > 1048576
  · rw [if_pos c2] at H
    have c2b0 : decide (1048576 < (l0.length : Int)) = true := decide_eq_true c2
    have c2b1 : decide (1048576 < l0.length) = true := decide_eq_true (by omega)
    clear c2
    obtain rfl := Option.some.inj H
    go_enter Try.func4, Try.ntmps4
    go_wp2
    go_ret
    exact ⟨by first | rfl | (simp [errW_none, errW_some] <;> rfl) | (simp [*, errW_none, errW_some] <;> rfl) | (simp [errW_none, errW_some]; exact ⟨rfl, rfl⟩), by repeat (first | (with_reducible first | exact HB.out | apply below_alloc | apply pw_below_drewN | apply below_drew1) | exact HB.out)⟩
  · rw [if_neg c2] at H
    have c2b0 : decide (1048576 < (l0.length : Int)) = false := decide_eq_false c2
    have c2b1 : decide (1048576 < l0.length) = false := decide_eq_false (by omega)
    clear c2
    replace H := Option.bind_eq_some_iff.mp H
    obtain ⟨⟨t403, t404⟩, A30, H⟩ := H
    replace H : ((impl_MakeEither.f t403 t404).bind fun bt405 => ((spec_MakeEither.f k t403 t404).bind fun bt407 => (if bt405.1.toList = bt407.1.toList then (laws_FnMakeEither.j0 k t403 t404 bt405.1 bt405.2 (bt405.2 == bt407.2)) else (laws_FnMakeEither.j0 k t403 t404 bt405.1 bt405.2 false)))) = some r := H
    have A3 := Aside0.mk A30
    clear A30
    replace H := Option.bind_eq_some_iff.mp H
    obtain ⟨⟨t405, t406⟩, A40, H⟩ := H
    replace H : ((spec_MakeEither.f k t403 t404).bind fun bt407 => (if t405.toList = bt407.1.toList then (laws_FnMakeEither.j0 k t403 t404 t405 t406 (t406 == bt407.2)) else (laws_FnMakeEither.j0 k t403 t404 t405 t406 false))) = some r := H
    have A4 := Aside0.mk A40
    clear A40
    replace H := Option.bind_eq_some_iff.mp H
    obtain ⟨⟨t407, t408⟩, A50, H⟩ := H
    replace H : (if t405.toList = t407.toList then (laws_FnMakeEither.j0 k t403 t404 t405 t406 (t406 == t408)) else (laws_FnMakeEither.j0 k t403 t404 t405 t406 false)) = some r := H
    have A5 := Aside0.mk A50
    clear A50
    have HC6 := Aside0.mk H
    clear H
    go_enter Try.func4, Try.ntmps4
    go_upto_region 6 with (first | ((with_reducible refine gate_callee (f := 14) rfl ?_); refine goesL_ (some 18) rfl rfl Try.func14 (by kernel_rfl) rfl #[.slice A0 l0.length c0] rfl (by (try simp only [List.map_toArray, List.map_cons, List.map_nil]); first | done | rfl | (simp only [List.length_drop, List.length_take]; rfl)) ?_; (with_reducible refine (spec_DrawMakeEither.calls k _ _ l0 t403 t404 _ ?side1 ?side2 A3.out).mono ?_); (case side1 => repeat (first | exact HR0.out | (with_reducible refine Kd.C_alloc ?_ _) | (with_reducible refine Kd.C_drewN ?_ _) | (with_reducible refine Kd.C_drew ?_))); (case side2 => exact HC0.out); rintro e w7 ⟨rfl, hb⟩; refine ⟨_, rfl, ?_⟩; have n0_ := Aside0.mk (below_step (by repeat (first | (with_reducible first | exact HB.out | apply below_alloc | apply pw_below_drewN | apply below_drew1) | exact HB.out)) hb); clear HB; have HB := n0_; clear n0_; (try clear hb); (try clear hb2); (try clear hk); (try clear hi)) | ((with_reducible refine gate_callee (f := 15) rfl ?_); refine goesL_ (some 24) rfl rfl Try.func15 (by kernel_rfl) rfl #[.string t403, .string t404] rfl (by (try simp only [List.map_toArray, List.map_cons, List.map_nil]); first | done | rfl | (simp only [List.length_drop, List.length_take]; rfl)) ?_; (with_reducible refine (impl_MakeEither.calls t403 t404 t405 t406 _ A4.out).mono ?_); rintro e w8 ⟨rfl, hb⟩; refine ⟨_, rfl, ?_⟩; have n0_ := Aside0.mk (below_step (by repeat (first | (with_reducible first | exact HB.out | apply below_alloc | apply pw_below_drewN | apply below_drew1) | exact HB.out)) hb); clear HB; have HB := n0_; clear n0_; (try clear hb); (try clear hb2); (try clear hk); (try clear hi)) | ((with_reducible refine gate_callee (f := 16) rfl ?_); refine goesL_ (some 30) rfl rfl Try.func16 (by kernel_rfl) rfl #[.string t403, .string t404] rfl (by (try simp only [List.map_toArray, List.map_cons, List.map_nil]); first | done | rfl | (simp only [List.length_drop, List.length_take]; rfl)) ?_; (with_reducible refine (spec_MakeEither.calls k t403 t404 t407 t408 _ A5.out).mono ?_); rintro e w9 ⟨rfl, hb⟩; refine ⟨_, rfl, ?_⟩; have n0_ := Aside0.mk (below_step (by repeat (first | (with_reducible first | exact HB.out | apply below_alloc | apply pw_below_drewN | apply below_drew1) | exact HB.out)) hb); clear HB; have HB := n0_; clear n0_; (try clear hb); (try clear hb2); (try clear hk); (try clear hi)))
    (try simp only [Act.put, List.setIfInBounds_toArray, List.set_cons_zero, List.set_cons_succ])
    go_cut [9] (fun v9 wc => ∃ (kq : Nat) (x9_5 : Bool), v9 = .bool x9_5 ∧ Aside0 (laws_FnMakeEither.j0 kq t403 t404 t405 t406 x9_5 = some r) ∧ Aside0 (kq ≤ k) ∧ Aside0 (Below w.heap.size w wc))
    case first =>
      have H := HC6.out
      clear HC6
      by_cases c10 : t405.toList = t407.toList
      · rw [if_pos c10] at H
        have c10b0 : (t405.toList == t407.toList) = true := beq_iff_eq.mpr c10
        have c10b1 : (t405.toList != t407.toList) = false := bne_eq_false_iff_eq.mpr c10
        clear c10
        (first | rw [c10b0] | (simp only [i64_w, i32_w]; rw [c10b0]) | skip)
        have H' := Aside0.mk H
        clear H
        go_wp2
        go_meet
        case rel => exact ⟨_, ((t406 == t408)), (by first | rfl | (simp; done) | (simp [*]; done) | (simp [Int.tmod_eq_emod_of_nonneg]; done)), H', ⟨by first | omega | exact Nat.le_refl _⟩, ⟨by repeat (first | (with_reducible first | exact HB.out | apply below_alloc | apply pw_below_drewN | apply below_drew1) | exact HB.out)⟩⟩
      · rw [if_neg c10] at H
        have c10b0 : (t405.toList == t407.toList) = false := beq_eq_false_iff_ne.mpr c10
        have c10b1 : (t405.toList != t407.toList) = true := bne_iff_ne.mpr c10
        (first | rw [c10b0] | (simp only [i64_w, i32_w]; rw [c10b0]) | skip)
        have H' := Aside0.mk H
        clear H
        go_wp2
        go_meet
        case rel => exact ⟨_, (false), (by first | rfl | (simp; done) | (simp [*]; done) | (simp [Int.tmod_eq_emod_of_nonneg]; done)), H', ⟨by first | omega | exact Nat.le_refl _⟩, ⟨by repeat (first | (with_reducible first | exact HB.out | apply below_alloc | apply pw_below_drewN | apply below_drew1) | exact HB.out)⟩⟩
    case rest =>
      clear HC6
      try clear c1
      try clear c2
      try clear c2b0
      try clear c2b1
      try clear p2
      try clear c4
      try clear c10
      try clear c10b0
      try clear c10b1
      obtain ⟨kq, x9_5, rfl, HA, HJ5, HB⟩ := hcut
      cases kq with
      | zero => exact absurd HA.out (by simp [laws_FnMakeEither.j0])
      | succ kj5 =>
        have H := HA.out
        clear HA
        simp only [laws_FnMakeEither.j0] at H
        have HC11 := Aside0.mk H
        clear H
        go_upto_region 7 with (fail)
        go_cut [46] (fun v46 wc => ∃ (kq : Nat) (x46_10 : Bool), v46 = .bool x46_10 ∧ Aside0 (laws_FnMakeEither.j1 kq t403 t404 t405 x9_5 x46_10 = some r) ∧ Aside0 (kq ≤ kj5) ∧ Aside0 (Below w.heap.size w wc))
        case first =>
          have H := HC11.out
          clear HC11
          by_cases c12 : x9_5 = true
          · subst c12
            have H1 : (laws_FnMakeEither.j1 kj5 t403 t404 t405 true (!t406)) = some r := by rw [if_pos rfl] at H; exact H
            clear H
            have H := H1
            clear H1
            have H' := Aside0.mk H
            clear H
            go_wp2
            go_meet
            case rel => exact ⟨_, (!t406), (by first | rfl | (simp; done) | (simp [*]; done) | (simp [Int.tmod_eq_emod_of_nonneg]; done)), H', ⟨by have := HJ5.out; first | omega | exact Nat.le_refl _⟩, ⟨by repeat (first | (with_reducible first | exact HB.out | apply below_alloc | apply pw_below_drewN | apply below_drew1) | exact HB.out)⟩⟩
          · replace c12 := Bool.eq_false_iff.mpr c12
            subst c12
            have H1 : (laws_FnMakeEither.j1 kj5 t403 t404 t405 false true) = some r := by rw [if_neg (show ¬ (false = true) by decide)] at H; exact H
            clear H
            have H := H1
            clear H1
            have H' := Aside0.mk H
            clear H
            go_wp2
            go_meet
            case rel => exact ⟨_, (true), (by first | rfl | (simp; done) | (simp [*]; done) | (simp [Int.tmod_eq_emod_of_nonneg]; done)), H', ⟨by have := HJ5.out; first | omega | exact Nat.le_refl _⟩, ⟨by repeat (first | (with_reducible first | exact HB.out | apply below_alloc | apply pw_below_drewN | apply below_drew1) | exact HB.out)⟩⟩
        case rest =>
          clear HC11
          try clear c1
          try clear c2
          try clear c2b0
          try clear c2b1
          try clear p2
          try clear c4
          try clear c10
          try clear c10b0
          try clear c10b1
          try clear c12
          try clear p2
          obtain ⟨kq, x46_10, rfl, HA, HJ10, HB⟩ := hcut
          cases kq with
          | zero => exact absurd HA.out (by simp [laws_FnMakeEither.j1])
          | succ kj10 =>
            have H := HA.out
            clear HA
            simp only [laws_FnMakeEither.j1] at H
            by_cases c13 : x46_10 = true
            · subst c13
              have H1 : (some x9_5) = some r := by rw [if_pos rfl] at H; exact H
              clear H
              have H := H1
              clear H1
              obtain rfl := Option.some.inj H
              go_wp2
              go_ret
              exact ⟨by first | rfl | (simp [errW_none, errW_some] <;> rfl) | (simp [*, errW_none, errW_some] <;> rfl) | (simp [errW_none, errW_some]; exact ⟨rfl, rfl⟩), by repeat (first | (with_reducible first | exact HB.out | apply below_alloc | apply pw_below_drewN | apply below_drew1) | exact HB.out)⟩
            · replace c13 := Bool.eq_false_iff.mpr c13
              subst c13
              have H1 : (laws_FnMakeEither.l0 kj10 t403 t404 t405 0) = some r := by rw [if_neg (show ¬ (false = true) by decide)] at H; exact H
              clear H
              have H := H1
              clear H1
              have H' := Aside0.mk H
              clear H
              go_wp2
              go_loopg [10] kj10 (fun kq v10 w' => ∃ (x10_3 : Int), v10 = .int .i64 x10_3 ∧ Aside0 (laws_FnMakeEither.l0 kq t403 t404 t405 x10_3 = some r) ∧ Aside0 (kq ≤ kj10) ∧ Aside0 (Below w.heap.size w w'))
              case atStart => exact ⟨(0), (by first | rfl | (simp; done) | (simp [*]; done) | (simp [Int.tmod_eq_emod_of_nonneg]; done)), H', ⟨Nat.le_refl _⟩, ⟨by repeat (first | (with_reducible first | exact HB.out | apply below_alloc | apply pw_below_drewN | apply below_drew1) | exact HB.out)⟩⟩
              case round =>
                clear H'
                try clear c1
                try clear c2
                try clear c2b0
                try clear c2b1
                try clear p2
                try clear c4
                try clear c10
                try clear c10b0
                try clear c10b1
                try clear c12
                try clear c13
                try clear p2
                obtain ⟨x10_3, rfl, HA, HK3, HB⟩ := hrel
                cases gk with
                | zero => exact absurd HA.out (by simp [laws_FnMakeEither.l0])
                | succ k3 =>
                  have H := HA.out
                  clear HA
                  simp only [laws_FnMakeEither.l0] at H
                  by_cases c14 : x10_3 ≤ 150
                  · rw [if_pos c14] at H
                    have c14b0 : decide (x10_3 ≤ 150) = true := decide_eq_true c14
                    clear c14
                    replace H := Option.bind_eq_some_iff.mp H
                    obtain ⟨t411, A150, H⟩ := H
                    replace H : ((impl_SetHas.f k3 t403 x10_3).bind fun t412 => (if t412 = true then (if (t411 != true) = true then (some false) else (laws_FnMakeEither.l0 k3 t403 t404 t405 (wrap64 (x10_3 + 1)))) else ((impl_SetHas.f k3 t404 x10_3).bind fun t413 => (if (t411 != t413) = true then (some false) else (laws_FnMakeEither.l0 k3 t403 t404 t405 (wrap64 (x10_3 + 1))))))) = some r := H
                    have A15 := Aside0.mk A150
                    clear A150
                    replace H := Option.bind_eq_some_iff.mp H
                    obtain ⟨t412, A160, H⟩ := H
                    replace H : (if t412 = true then (if (t411 != true) = true then (some false) else (laws_FnMakeEither.l0 k3 t403 t404 t405 (wrap64 (x10_3 + 1)))) else ((impl_SetHas.f k3 t404 x10_3).bind fun t413 => (if (t411 != t413) = true then (some false) else (laws_FnMakeEither.l0 k3 t403 t404 t405 (wrap64 (x10_3 + 1)))))) = some r := H
                    have A16 := Aside0.mk A160
                    clear A160
                    by_cases c17 : t412 = true
                    · subst c17
                      have H1 : (if (t411 != true) = true then (some false) else (laws_FnMakeEither.l0 k3 t403 t404 t405 (wrap64 (x10_3 + 1)))) = some r := by rw [if_pos rfl] at H; exact H
                      clear H
                      have H := H1
                      clear H1
                      by_cases c18 : (t411 != true) = true
                      · rw [if_pos c18] at H
                        have c18b0 : (t411 != true) = true := c18
                        (try (have c18b1 : decide (t411 = true) = false := by simpa using c18))
                        (try (have c18b2 : (t411 == true) = false := by simpa using c18))
                        (try (have c18b3 : ¬ (t411 = true) := by simpa using c18))
                        clear c18
                        obtain rfl := Option.some.inj H
                        go_wp2_with (first | ((with_reducible refine gate_callee (f := 12) rfl ?_); refine goesL_ (some 54) rfl rfl Try.func12 (by kernel_rfl) rfl #[.string t405, .int .i64 x10_3] rfl (by (try simp only [List.map_toArray, List.map_cons, List.map_nil]); first | done | rfl | (simp only [List.length_drop, List.length_take]; rfl)) ?_; (with_reducible refine (impl_SetHas.calls k3 t405 x10_3 t411 _ A15.out).mono ?_); rintro e w19 ⟨rfl, hb⟩; refine ⟨_, rfl, ?_⟩; have n0_ := Aside0.mk (below_step (by repeat (first | (with_reducible first | exact HB.out | apply below_alloc | apply pw_below_drewN | apply below_drew1) | exact HB.out)) hb); clear HB; have HB := n0_; clear n0_; (try clear hb); (try clear hb2); (try clear hk); (try clear hi)) | ((with_reducible refine gate_callee (f := 12) rfl ?_); refine goesL_ (some 57) rfl rfl Try.func12 (by kernel_rfl) rfl #[.string t403, .int .i64 x10_3] rfl (by (try simp only [List.map_toArray, List.map_cons, List.map_nil]); first | done | rfl | (simp only [List.length_drop, List.length_take]; rfl)) ?_; (with_reducible refine (impl_SetHas.calls k3 t403 x10_3 true _ A16.out).mono ?_); rintro e w20 ⟨rfl, hb⟩; refine ⟨_, rfl, ?_⟩; have n0_ := Aside0.mk (below_step (by repeat (first | (with_reducible first | exact HB.out | apply below_alloc | apply pw_below_drewN | apply below_drew1) | exact HB.out)) hb); clear HB; have HB := n0_; clear n0_; (try clear hb); (try clear hb2); (try clear hk); (try clear hi)))
                        go_ret
                        exact ⟨by first | rfl | (simp [errW_none, errW_some] <;> rfl) | (simp [*, errW_none, errW_some] <;> rfl) | (simp [errW_none, errW_some]; exact ⟨rfl, rfl⟩), by repeat (first | (with_reducible first | exact HB.out | apply below_alloc | apply pw_below_drewN | apply below_drew1) | exact HB.out)⟩
                      · rw [if_neg c18] at H
                        have c18b0 : (t411 != true) = false := by simpa using c18
                        (try (have c18b1 : decide (t411 = true) = true := by simpa using c18))
                        (try (have c18b2 : (t411 == true) = true := by simpa using c18))
                        clear c18
                        have H' := Aside0.mk H
                        clear H
                        go_wp2_with (first | ((with_reducible refine gate_callee (f := 12) rfl ?_); refine goesL_ (some 54) rfl rfl Try.func12 (by kernel_rfl) rfl #[.string t405, .int .i64 x10_3] rfl (by (try simp only [List.map_toArray, List.map_cons, List.map_nil]); first | done | rfl | (simp only [List.length_drop, List.length_take]; rfl)) ?_; (with_reducible refine (impl_SetHas.calls k3 t405 x10_3 t411 _ A15.out).mono ?_); rintro e w21 ⟨rfl, hb⟩; refine ⟨_, rfl, ?_⟩; have n0_ := Aside0.mk (below_step (by repeat (first | (with_reducible first | exact HB.out | apply below_alloc | apply pw_below_drewN | apply below_drew1) | exact HB.out)) hb); clear HB; have HB := n0_; clear n0_; (try clear hb); (try clear hb2); (try clear hk); (try clear hi)) | ((with_reducible refine gate_callee (f := 12) rfl ?_); refine goesL_ (some 57) rfl rfl Try.func12 (by kernel_rfl) rfl #[.string t403, .int .i64 x10_3] rfl (by (try simp only [List.map_toArray, List.map_cons, List.map_nil]); first | done | rfl | (simp only [List.length_drop, List.length_take]; rfl)) ?_; (with_reducible refine (impl_SetHas.calls k3 t403 x10_3 true _ A16.out).mono ?_); rintro e w22 ⟨rfl, hb⟩; refine ⟨_, rfl, ?_⟩; have n0_ := Aside0.mk (below_step (by repeat (first | (with_reducible first | exact HB.out | apply below_alloc | apply pw_below_drewN | apply below_drew1) | exact HB.out)) hb); clear HB; have HB := n0_; clear n0_; (try clear hb); (try clear hb2); (try clear hk); (try clear hi)))
                        go_roundg k3
                        case measure => have := HJ5.out; have := HJ10.out; have := HK3.out; omega
                        case rel => exact ⟨(wrap64 (x10_3 + 1)), (by first | rfl | (simp; done) | (simp [*]; done) | (simp [Int.tmod_eq_emod_of_nonneg]; done)), H', ⟨by have := HJ5.out; have := HJ10.out; have := HK3.out; omega⟩, ⟨by repeat (first | (with_reducible first | exact HB.out | apply below_alloc | apply pw_below_drewN | apply below_drew1) | exact HB.out)⟩⟩
                    · replace c17 := Bool.eq_false_iff.mpr c17
                      subst c17
                      have H1 : ((impl_SetHas.f k3 t404 x10_3).bind fun t413 => (if (t411 != t413) = true then (some false) else (laws_FnMakeEither.l0 k3 t403 t404 t405 (wrap64 (x10_3 + 1))))) = some r := by rw [if_neg (show ¬ (false = true) by decide)] at H; exact H
                      clear H
                      have H := H1
                      clear H1
                      replace H := Option.bind_eq_some_iff.mp H
                      obtain ⟨t413, A230, H⟩ := H
                      replace H : (if (t411 != t413) = true then (some false) else (laws_FnMakeEither.l0 k3 t403 t404 t405 (wrap64 (x10_3 + 1)))) = some r := H
                      have A23 := Aside0.mk A230
                      clear A230
                      by_cases c24 : (t411 != t413) = true
                      · rw [if_pos c24] at H
                        have c24b0 : (t411 != t413) = true := c24
                        (try (have c24b1 : decide (t411 = t413) = false := by simpa using c24))
                        (try (have c24b2 : (t411 == t413) = false := by simpa using c24))
                        (try (have c24b3 : ¬ (t411 = t413) := by simpa using c24))
                        clear c24
                        obtain rfl := Option.some.inj H
                        go_wp2_with (first | ((with_reducible refine gate_callee (f := 12) rfl ?_); refine goesL_ (some 54) rfl rfl Try.func12 (by kernel_rfl) rfl #[.string t405, .int .i64 x10_3] rfl (by (try simp only [List.map_toArray, List.map_cons, List.map_nil]); first | done | rfl | (simp only [List.length_drop, List.length_take]; rfl)) ?_; (with_reducible refine (impl_SetHas.calls k3 t405 x10_3 t411 _ A15.out).mono ?_); rintro e w25 ⟨rfl, hb⟩; refine ⟨_, rfl, ?_⟩; have n0_ := Aside0.mk (below_step (by repeat (first | (with_reducible first | exact HB.out | apply below_alloc | apply pw_below_drewN | apply below_drew1) | exact HB.out)) hb); clear HB; have HB := n0_; clear n0_; (try clear hb); (try clear hb2); (try clear hk); (try clear hi)) | ((with_reducible refine gate_callee (f := 12) rfl ?_); refine goesL_ (some 57) rfl rfl Try.func12 (by kernel_rfl) rfl #[.string t403, .int .i64 x10_3] rfl (by (try simp only [List.map_toArray, List.map_cons, List.map_nil]); first | done | rfl | (simp only [List.length_drop, List.length_take]; rfl)) ?_; (with_reducible refine (impl_SetHas.calls k3 t403 x10_3 false _ A16.out).mono ?_); rintro e w26 ⟨rfl, hb⟩; refine ⟨_, rfl, ?_⟩; have n0_ := Aside0.mk (below_step (by repeat (first | (with_reducible first | exact HB.out | apply below_alloc | apply pw_below_drewN | apply below_drew1) | exact HB.out)) hb); clear HB; have HB := n0_; clear n0_; (try clear hb); (try clear hb2); (try clear hk); (try clear hi)) | (go_at_call 12; (with_reducible refine (impl_SetHas.calls k3 t404 x10_3 t413 _ A23.out).mono ?_); rintro e w27 ⟨rfl, hb⟩; have n0_ := Aside0.mk (below_step (by repeat (first | (with_reducible first | exact HB.out | apply below_alloc | apply pw_below_drewN | apply below_drew1) | exact HB.out)) hb); clear HB; have HB := n0_; clear n0_; (try clear hb); (try clear hb2); (try clear hk); (try clear hi)))
                        go_ret
                        exact ⟨by first | rfl | (simp [errW_none, errW_some] <;> rfl) | (simp [*, errW_none, errW_some] <;> rfl) | (simp [errW_none, errW_some]; exact ⟨rfl, rfl⟩), by repeat (first | (with_reducible first | exact HB.out | apply below_alloc | apply pw_below_drewN | apply below_drew1) | exact HB.out)⟩
                      · rw [if_neg c24] at H
                        have c24b0 : (t411 != t413) = false := by simpa using c24
                        (try (have c24b1 : decide (t411 = t413) = true := by simpa using c24))
                        (try (have c24b2 : (t411 == t413) = true := by simpa using c24))
                        clear c24
                        have H' := Aside0.mk H
                        clear H
                        go_wp2_with (first | ((with_reducible refine gate_callee (f := 12) rfl ?_); refine goesL_ (some 54) rfl rfl Try.func12 (by kernel_rfl) rfl #[.string t405, .int .i64 x10_3] rfl (by (try simp only [List.map_toArray, List.map_cons, List.map_nil]); first | done | rfl | (simp only [List.length_drop, List.length_take]; rfl)) ?_; (with_reducible refine (impl_SetHas.calls k3 t405 x10_3 t411 _ A15.out).mono ?_); rintro e w28 ⟨rfl, hb⟩; refine ⟨_, rfl, ?_⟩; have n0_ := Aside0.mk (below_step (by repeat (first | (with_reducible first | exact HB.out | apply below_alloc | apply pw_below_drewN | apply below_drew1) | exact HB.out)) hb); clear HB; have HB := n0_; clear n0_; (try clear hb); (try clear hb2); (try clear hk); (try clear hi)) | ((with_reducible refine gate_callee (f := 12) rfl ?_); refine goesL_ (some 57) rfl rfl Try.func12 (by kernel_rfl) rfl #[.string t403, .int .i64 x10_3] rfl (by (try simp only [List.map_toArray, List.map_cons, List.map_nil]); first | done | rfl | (simp only [List.length_drop, List.length_take]; rfl)) ?_; (with_reducible refine (impl_SetHas.calls k3 t403 x10_3 false _ A16.out).mono ?_); rintro e w29 ⟨rfl, hb⟩; refine ⟨_, rfl, ?_⟩; have n0_ := Aside0.mk (below_step (by repeat (first | (with_reducible first | exact HB.out | apply below_alloc | apply pw_below_drewN | apply below_drew1) | exact HB.out)) hb); clear HB; have HB := n0_; clear n0_; (try clear hb); (try clear hb2); (try clear hk); (try clear hi)) | (go_at_call 12; (with_reducible refine (impl_SetHas.calls k3 t404 x10_3 t413 _ A23.out).mono ?_); rintro e w30 ⟨rfl, hb⟩; have n0_ := Aside0.mk (below_step (by repeat (first | (with_reducible first | exact HB.out | apply below_alloc | apply pw_below_drewN | apply below_drew1) | exact HB.out)) hb); clear HB; have HB := n0_; clear n0_; (try clear hb); (try clear hb2); (try clear hk); (try clear hi)))
                        go_roundg k3
                        case measure => have := HJ5.out; have := HJ10.out; have := HK3.out; omega
                        case rel => exact ⟨(wrap64 (x10_3 + 1)), (by first | rfl | (simp; done) | (simp [*]; done) | (simp [Int.tmod_eq_emod_of_nonneg]; done)), H', ⟨by have := HJ5.out; have := HJ10.out; have := HK3.out; omega⟩, ⟨by repeat (first | (with_reducible first | exact HB.out | apply below_alloc | apply pw_below_drewN | apply below_drew1) | exact HB.out)⟩⟩
                  · rw [if_neg c14] at H
                    have c14b0 : decide (x10_3 ≤ 150) = false := decide_eq_false c14
                    clear c14
                    replace H := Option.bind_eq_some_iff.mp H
                    obtain ⟨⟨t409, t410⟩, A310, H⟩ := H
                    replace H : (if t410 = true then (some (t409.toList == t405.toList)) else (some false)) = some r := H
                    have A31 := Aside0.mk A310
                    clear A310
                    by_cases c32 : t410 = true
                    · subst c32
                      have H1 : (some (t409.toList == t405.toList)) = some r := by rw [if_pos rfl] at H; exact H
                      clear H
                      have H := H1
                      clear H1
                      obtain rfl := Option.some.inj H
                      go_wp2_with (first | ((with_reducible refine gate_callee (f := 13) rfl ?_); refine goesL_ (some 66) rfl rfl Try.func13 (by kernel_rfl) rfl #[.string t405] rfl (by (try simp only [List.map_toArray, List.map_cons, List.map_nil]); first | done | rfl | (simp only [List.length_drop, List.length_take]; rfl)) ?_; (with_reducible refine (impl_SetTidy.calls k3 t405 t409 true _ A31.out).mono ?_); rintro e w33 ⟨rfl, hb⟩; refine ⟨_, rfl, ?_⟩; have n0_ := Aside0.mk (below_step (by repeat (first | (with_reducible first | exact HB.out | apply below_alloc | apply pw_below_drewN | apply below_drew1) | exact HB.out)) hb); clear HB; have HB := n0_; clear n0_; (try clear hb); (try clear hb2); (try clear hk); (try clear hi)))
                      go_ret
                      exact ⟨by first | rfl | (simp [errW_none, errW_some] <;> rfl) | (simp [*, errW_none, errW_some] <;> rfl) | (simp [errW_none, errW_some]; exact ⟨rfl, rfl⟩), by repeat (first | (with_reducible first | exact HB.out | apply below_alloc | apply pw_below_drewN | apply below_drew1) | exact HB.out)⟩
                    · replace c32 := Bool.eq_false_iff.mpr c32
                      subst c32
                      have H1 : (some false) = some r := by rw [if_neg (show ¬ (false = true) by decide)] at H; exact H
                      clear H
                      have H := H1
                      clear H1
                      obtain rfl := Option.some.inj H
                      go_wp2_with (first | ((with_reducible refine gate_callee (f := 13) rfl ?_); refine goesL_ (some 66) rfl rfl Try.func13 (by kernel_rfl) rfl #[.string t405] rfl (by (try simp only [List.map_toArray, List.map_cons, List.map_nil]); first | done | rfl | (simp only [List.length_drop, List.length_take]; rfl)) ?_; (with_reducible refine (impl_SetTidy.calls k3 t405 t409 false _ A31.out).mono ?_); rintro e w34 ⟨rfl, hb⟩; refine ⟨_, rfl, ?_⟩; have n0_ := Aside0.mk (below_step (by repeat (first | (with_reducible first | exact HB.out | apply below_alloc | apply pw_below_drewN | apply below_drew1) | exact HB.out)) hb); clear HB; have HB := n0_; clear n0_; (try clear hb); (try clear hb2); (try clear hk); (try clear hi)))
                      go_ret
                      exact ⟨by first | rfl | (simp [errW_none, errW_some] <;> rfl) | (simp [*, errW_none, errW_some] <;> rfl) | (simp [errW_none, errW_some]; exact ⟨rfl, rfl⟩), by repeat (first | (with_reducible first | exact HB.out | apply below_alloc | apply pw_below_drewN | apply below_drew1) | exact HB.out)⟩

/-- THE ONE PURE STATEMENT of laws_FnMakeEither: yours. -/
noncomputable def laws_FnMakeEither.Pure : Prop := ∀ (l0 : List Int), l0.length ≤ maxLen → l0.length * 1 ≤ 140737488351232 → (∀ x ∈ l0, (Lit.int .u8 x).wf = true) → ∃ k, laws_FnMakeEither.f k l0 = some true
theorem laws_FnMakeEither.walk (P : laws_FnMakeEither.Pure) (a0 : Option Addr) (len0 cap0 : Nat) (z0 : List Int) (w : World) (w0 : (a0 = none ∧ len0 = 0 ∧ cap0 = 0 ∧ z0 = []) ∨ ∃ x, a0 = some x ∧ len0 ≤ cap0 ∧ cap0 ≤ maxLen ∧ z0.length = cap0 ∧ (∀ i, i < z0.length → w.cell? (x.add i) = some (.int .u8 (z0.getD i 0))) ∧ ∀ n ∈ z0, (Lit.int .u8 n).wf = true) (y0 : len0 * 1 ≤ 140737488351232) :
    Calls Try.prog 4 #[.slice a0 len0 cap0] w fun e w' => e = .returned (.bool true) ∧ Below w.heap.size w w' := by
  obtain ⟨l0, rfl, hr0, hm0, hw0, hc0⟩ := ReadsInt.ofRowC w0
  obtain ⟨k, h⟩ := P l0 hm0 y0 hw0
  refine (laws_FnMakeEither.calls k _ _ l0 true w (Kd.C_of_reads (d := (0 : Int)) (h1 := fun _ => rfl) hr0) hc0 h).mono ?_
  rintro e w' ⟨rfl, hd⟩
  exact ⟨rfl, hd⟩

end Go.Proofs.Ytfoolgjofinmlaa.P

-- For every code the law FnMakeEither holds.
namespace Go.Proofs.Ytfoolgjofinmlaa.P
open Go.RowKit Go.Proofs.YtfoolgjofinmlaaW.PrintWords Go.Proofs.YtfoolgjofinmlaaW.PrintLast Go.Proofs.YtfoolgjofinmlaaW.PrintMore
set_option linter.unusedVariables false
set_option linter.unusedSimpArgs false

theorem drawEither_f (l : List Int) (h : ∀ x ∈ l, (Lit.int .u8 x).wf = true) : ∃ (s t : ByteArray), Few s ∧ Few t ∧ Ev (fun k => spec_DrawMakeEither.f k l) (s, t) := by
  obtain ⟨s, q, hf, hq, K0, h0⟩ := set91_f (code_of h) 0 (by omega)
  dsimp only at h0
  have g0 : ∀ k, K0 ≤ k → spec_l91Set.f k (l.take 2000) 0 = some (s, (q : Int)) := h0
  obtain ⟨t, q2, hf2, hq2, K1, h1⟩ := set91_f (code_of h) q (by omega)
  dsimp only at h1
  have g1 : ∀ k, K1 ≤ k → spec_l91Set.f k (l.take 2000) (q : Int) = some (t, (q2 : Int)) := h1
  refine ⟨s, t, hf, hf2, K0 + K1, fun k hk => ?_⟩
  dsimp only
  unfold spec_DrawMakeEither.f
  rw [open_f, Option.bind_some, g0 k (by omega), Option.bind_some, g1 k (by omega), Option.bind_some]
theorem lawMakeEither_l0 (s t x0 : ByteArray) (hs : s.size ≤ 70368744177664) (ht : t.size ≤ 70368744177664) (hx : x0.size ≤ 122) (hq : setf (chrs x0) = fun n => (fun x y : Bool => x || y) (setf (chrs s) n) (setf (chrs t) n)) (hty : tdy (chrs x0) = (x0, true)) : ∀ (d n : Nat), n ≤ 151 → 151 - n = d →
    Ev (fun k => laws_FnMakeEither.l0 k s t x0 n) true := by
  intro d
  induction d with
  | zero =>
    intro n hn hd
    have e : n = 151 := by omega
    subst e
    obtain ⟨K, hK⟩ := tdy_again x0 hx hty
    dsimp only at hK
    refine ⟨K + 1, fun k hk => ?_⟩
    obtain ⟨k, rfl, hk2⟩ := down1 hk
    simp only [laws_FnMakeEither.l0]
    rw [if_neg (by omega), hK k hk2, Option.bind_some, if_pos (by trivial), BEq.rfl]
  | succ d ih =>
    intro n hn hd
    obtain ⟨K3, h3⟩ := ih (n + 1) (by omega) (by omega)
    dsimp only at h3
    obtain ⟨K1, h1⟩ := isetHas_f x0 (by omega) n (by omega)
    dsimp only at h1
    rw [hq] at h1
    dsimp only at h1
    obtain ⟨K2, h2⟩ := isetHas_f s hs n (by omega)
    dsimp only at h2
    cases hx : setf (chrs s) n with
    | true =>
      rw [hx] at h1 h2
      have h1 : ∀ k, K1 ≤ k → impl_SetHas.f k x0 n = some true := h1
      refine ⟨K1 + K2 + K3 + 1, fun k hk => ?_⟩
      obtain ⟨k, rfl, hk2⟩ := down1 hk
      simp only [laws_FnMakeEither.l0]
      rw [if_pos (by omega), h1 k (by omega), Option.bind_some, h2 k (by omega), Option.bind_some, if_pos (by trivial), if_neg (bne_no _), wsucc (by omega)]
      exact h3 k (by omega)
    | false =>
      rw [hx] at h1 h2
      have h1 : ∀ k, K1 ≤ k → impl_SetHas.f k x0 n = some (setf (chrs t) n) := h1
      obtain ⟨K4, h4⟩ := isetHas_f t ht n (by omega)
      dsimp only at h4
      refine ⟨K1 + K2 + K3 + K4 + 1, fun k hk => ?_⟩
      obtain ⟨k, rfl, hk2⟩ := down1 hk
      simp only [laws_FnMakeEither.l0]
      rw [if_pos (by omega), h1 k (by omega), Option.bind_some, h2 k (by omega), Option.bind_some, if_neg (by decide), h4 k (by omega), Option.bind_some, if_neg (bne_no _), wsucc (by omega)]
      exact h3 k (by omega)
theorem lawMakeEither_ev (l : List Int) (h : ∀ x ∈ l, (Lit.int .u8 x).wf = true) : Ev (fun k => laws_FnMakeEither.f k l) true := by
  by_cases hl : (l.length : Int) > 1048576
  · exact ⟨0, fun k _ => by dsimp only; unfold laws_FnMakeEither.f; rw [if_pos hl]⟩
  · obtain ⟨s, t, hf, hf2, K1, h1⟩ := drawEither_f l h
    dsimp only at h1
    have hz := hf.size
    have hz2 := hf2.size
    have hs : s.size ≤ 70368744177664 := by omega
    have ht : t.size ≤ 70368744177664 := by omega
    obtain ⟨K2, h2⟩ := smakeEither_f s t hs ht
    dsimp only at h2
    have h3 := makeEither_f s t hs ht
    have main : Ev (fun k => laws_FnMakeEither.j0 k s t (two (fun x y => x || y) (chrs s) (chrs t)).1 (two (fun x y => x || y) (chrs s) (chrs t)).2 true) true := by
      cases h4 : (two (fun x y => x || y) (chrs s) (chrs t)).2 with
      | false =>
        refine Ev.step (f := fun k => laws_FnMakeEither.j1 k s t (two (fun x y => x || y) (chrs s) (chrs t)).1 true true) (fun k => ?_) (Ev.step (f := fun k => some true) (fun k => ?_) (Ev.now _))
        · simp only [laws_FnMakeEither.j0]; rfl
        · simp only [laws_FnMakeEither.j1]; rfl
      | true =>
        obtain ⟨m, p, hp0, hper, he, hA⟩ := two_ok h4
        rw [he]
        refine Ev.step (f := fun k => laws_FnMakeEither.j1 k s t (txt (cn fun n => (fun x y : Bool => x || y) (setf (chrs s) n) (setf (chrs t) n))).1 true false) (fun k => ?_) (Ev.step (fun k => ?_) (lawMakeEither_l0 s t _ hs ht (txt_size _) (txt_setf hp0 hper hA) (txt_tdy hp0 hper hA) _ 0 (by omega) rfl))
        · simp only [laws_FnMakeEither.j0]; rfl
        · simp only [laws_FnMakeEither.j1]; rfl
    obtain ⟨K4, h4⟩ := main
    dsimp only at h4
    refine ⟨K1 + K2 + K4, fun k hk => ?_⟩
    dsimp only
    unfold laws_FnMakeEither.f
    rw [if_neg hl, h1 k (by omega), Option.bind_some]
    try dsimp only
    rw [h3, Option.bind_some, h2 k (by omega), Option.bind_some, if_pos (by trivial), BEq.rfl]
    exact h4 k (by omega)
theorem lawMakeEither_pure : laws_FnMakeEither.Pure := fun l _ _ h => (lawMakeEither_ev l h).rounds
end Go.Proofs.Ytfoolgjofinmlaa.P

-- For every code the law FnMakeEither holds.
namespace Go.Proofs.Ytfoolgjofinmlaa.Pure
theorem FnMakeEither : Go.Proofs.Ytfoolgjofinmlaa.P.laws_FnMakeEither.Pure := Go.Proofs.Ytfoolgjofinmlaa.P.lawMakeEither_pure
end Go.Proofs.Ytfoolgjofinmlaa.Pure
