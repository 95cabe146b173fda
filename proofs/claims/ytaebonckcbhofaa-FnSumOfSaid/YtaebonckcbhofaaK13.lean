/- What these laws reach, joined by a program of this session: contracts (written by that program over the kit's print, or by hand) and plain lemmas. -/
import Derived.Test.YtaebonckcbhofaaK1
import Derived.Test.YtaebonckcbhofaaK4
import Derived.Test.YtaebonckcbhofaaK5
import Derived.Test.YtaebonckcbhofaaK6
namespace Go.Proofs.Ytaebonckcbhofaa.P
open Go.RowKit Go.Proofs.YtaebonckcbhofaaW.PrintWords Go.Proofs.YtaebonckcbhofaaW.PrintLast Go.Proofs.YtaebonckcbhofaaW.PrintMore
attribute [local go_sem] max2_int min2_int max_two min_two max_three min_three max_four min_four   -- for this text's walks alone
set_option linter.unusedVariables false
set_option linter.unusedSimpArgs false

/-! ### laws_FnSumOf: function 4 -/
mutual
noncomputable def laws_FnSumOf.j0 : Nat → ByteArray → ByteArray → ByteArray → Bool → Bool → Option (Bool)
  | 0, _, _, _, _, _ => none
  | k + 1, x3, x4, x5, x6, x9 => if x9 = true then (laws_FnSumOf.j1 k x3 x4 x5 x9 (!x6)) else (laws_FnSumOf.j1 k x3 x4 x5 x9 true)
noncomputable def laws_FnSumOf.j1 : Nat → ByteArray → ByteArray → ByteArray → Bool → Bool → Option (Bool)
  | 0, _, _, _, _, _ => none
  | k + 1, x3, x4, x5, x9, x48 => if x48 = true then (some x9) else ((impl_SumOf.f x4 x3).bind fun bt425 => (laws_FnSumOf.l0 k x3 x4 x5 bt425.1 bt425.2 0))
noncomputable def laws_FnSumOf.l0 : Nat → ByteArray → ByteArray → ByteArray → ByteArray → Bool → Int → Option (Bool)
  | 0, _, _, _, _, _, _ => none
  | k + 1, x3, x4, x5, x10, x11, x12 => if x12 ≤ 60 then (laws_FnSumOf.l1 k x3 x4 x5 x10 x11 x12 false 0) else (if x11 = true then (some (x10.toList == x5.toList)) else (some false))
noncomputable def laws_FnSumOf.l1 : Nat → ByteArray → ByteArray → ByteArray → ByteArray → Bool → Int → Bool → Int → Option (Bool)
  | 0, _, _, _, _, _, _, _, _ => none
  | k + 1, x3, x4, x5, x10, x11, x12, x13, x14 => if x14 ≤ x12 then (if x13 = true then (laws_FnSumOf.l1 k x3 x4 x5 x10 x11 x12 true (wrap64 (x14 + 1))) else ((impl_SetHas.f k x3 x14).bind fun t427 => (if t427 = true then ((impl_SetHas.f k x4 (wrap64 (x12 - x14))).bind fun t428 => (laws_FnSumOf.l1 k x3 x4 x5 x10 x11 x12 t428 (wrap64 (x14 + 1)))) else (laws_FnSumOf.l1 k x3 x4 x5 x10 x11 x12 false (wrap64 (x14 + 1)))))) else ((impl_SetHas.f k x5 x12).bind fun t429 => (if (t429 != x13) = true then (some false) else (laws_FnSumOf.l0 k x3 x4 x5 x10 x11 (wrap64 (x12 + 1)))))
end
noncomputable def laws_FnSumOf.f (k : Nat) (l0 : List Int) : Option (Bool) := if (l0.length : Int) > 1048576 then (some true) else ((spec_DrawSumOf.f k l0).bind fun bt419 => ((impl_SumOf.f bt419.1 bt419.2).bind fun bt421 => ((spec_SumOf.f k bt419.1 bt419.2).bind fun bt423 => (if bt421.1.toList = bt423.1.toList then (laws_FnSumOf.j0 k bt419.1 bt419.2 bt421.1 bt421.2 (bt421.2 == bt423.2)) else (laws_FnSumOf.j0 k bt419.1 bt419.2 bt421.1 bt421.2 false)))))
theorem laws_FnSumOf.mono_l : ∀ k, (∀ y0 y1 y2 y3 y4, LeO (laws_FnSumOf.j0 k y0 y1 y2 y3 y4) (laws_FnSumOf.j0 (k + 1) y0 y1 y2 y3 y4)) ∧ (∀ y0 y1 y2 y3 y4, LeO (laws_FnSumOf.j1 k y0 y1 y2 y3 y4) (laws_FnSumOf.j1 (k + 1) y0 y1 y2 y3 y4)) ∧ (∀ y0 y1 y2 y3 y4 y5, LeO (laws_FnSumOf.l0 k y0 y1 y2 y3 y4 y5) (laws_FnSumOf.l0 (k + 1) y0 y1 y2 y3 y4 y5)) ∧ (∀ y0 y1 y2 y3 y4 y5 y6 y7, LeO (laws_FnSumOf.l1 k y0 y1 y2 y3 y4 y5 y6 y7) (laws_FnSumOf.l1 (k + 1) y0 y1 y2 y3 y4 y5 y6 y7))
  | 0 => ⟨fun _ _ _ _ _ r h => by simp [laws_FnSumOf.j0] at h, fun _ _ _ _ _ r h => by simp [laws_FnSumOf.j1] at h, fun _ _ _ _ _ _ r h => by simp [laws_FnSumOf.l0] at h, fun _ _ _ _ _ _ _ _ r h => by simp [laws_FnSumOf.l1] at h⟩
  | k + 1 => by
    obtain ⟨ih0, ih1, ih2, ih3⟩ := laws_FnSumOf.mono_l k
    refine ⟨?_, ?_, ?_, ?_⟩
    · intro y0 y1 y2 y3 y4
      unfold laws_FnSumOf.j0
      repeat' first
      | (with_reducible exact ih0 _ _ _ _ _)
      | (with_reducible exact ih1 _ _ _ _ _)
      | (with_reducible exact ih2 _ _ _ _ _ _)
      | (with_reducible exact ih3 _ _ _ _ _ _ _ _)
      | (with_reducible exact impl_SetHas.mono _ _ _)
      | (with_reducible exact spec_DrawSumOf.mono _ _)
      | (with_reducible exact spec_SumOf.mono _ _ _)
      | (with_reducible exact LeO.refl _)
      | (with_reducible exact LeO.none _)
      | (with_reducible refine LeO.ite ?_ ?_)
      | (with_reducible refine LeO.bind ?_ (fun _ => ?_))
      | exact ih0 _ _ _ _ _
      | exact ih1 _ _ _ _ _
      | exact ih2 _ _ _ _ _ _
      | exact ih3 _ _ _ _ _ _ _ _
      | exact impl_SetHas.mono _ _ _
      | exact spec_DrawSumOf.mono _ _
      | exact spec_SumOf.mono _ _ _
      | exact LeO.none _
      | refine LeO.ite ?_ ?_
      | refine LeO.bind ?_ (fun _ => ?_)
    · intro y0 y1 y2 y3 y4
      unfold laws_FnSumOf.j1
      repeat' first
      | (with_reducible exact ih0 _ _ _ _ _)
      | (with_reducible exact ih1 _ _ _ _ _)
      | (with_reducible exact ih2 _ _ _ _ _ _)
      | (with_reducible exact ih3 _ _ _ _ _ _ _ _)
      | (with_reducible exact impl_SetHas.mono _ _ _)
      | (with_reducible exact spec_DrawSumOf.mono _ _)
      | (with_reducible exact spec_SumOf.mono _ _ _)
      | (with_reducible exact LeO.refl _)
      | (with_reducible exact LeO.none _)
      | (with_reducible refine LeO.ite ?_ ?_)
      | (with_reducible refine LeO.bind ?_ (fun _ => ?_))
      | exact ih0 _ _ _ _ _
      | exact ih1 _ _ _ _ _
      | exact ih2 _ _ _ _ _ _
      | exact ih3 _ _ _ _ _ _ _ _
      | exact impl_SetHas.mono _ _ _
      | exact spec_DrawSumOf.mono _ _
      | exact spec_SumOf.mono _ _ _
      | exact LeO.none _
      | refine LeO.ite ?_ ?_
      | refine LeO.bind ?_ (fun _ => ?_)
    · intro y0 y1 y2 y3 y4 y5
      unfold laws_FnSumOf.l0
      repeat' first
      | (with_reducible exact ih0 _ _ _ _ _)
      | (with_reducible exact ih1 _ _ _ _ _)
      | (with_reducible exact ih2 _ _ _ _ _ _)
      | (with_reducible exact ih3 _ _ _ _ _ _ _ _)
      | (with_reducible exact impl_SetHas.mono _ _ _)
      | (with_reducible exact spec_DrawSumOf.mono _ _)
      | (with_reducible exact spec_SumOf.mono _ _ _)
      | (with_reducible exact LeO.refl _)
      | (with_reducible exact LeO.none _)
      | (with_reducible refine LeO.ite ?_ ?_)
      | (with_reducible refine LeO.bind ?_ (fun _ => ?_))
      | exact ih0 _ _ _ _ _
      | exact ih1 _ _ _ _ _
      | exact ih2 _ _ _ _ _ _
      | exact ih3 _ _ _ _ _ _ _ _
      | exact impl_SetHas.mono _ _ _
      | exact spec_DrawSumOf.mono _ _
      | exact spec_SumOf.mono _ _ _
      | exact LeO.none _
      | refine LeO.ite ?_ ?_
      | refine LeO.bind ?_ (fun _ => ?_)
    · intro y0 y1 y2 y3 y4 y5 y6 y7
      unfold laws_FnSumOf.l1
      repeat' first
      | (with_reducible exact ih0 _ _ _ _ _)
      | (with_reducible exact ih1 _ _ _ _ _)
      | (with_reducible exact ih2 _ _ _ _ _ _)
      | (with_reducible exact ih3 _ _ _ _ _ _ _ _)
      | (with_reducible exact impl_SetHas.mono _ _ _)
      | (with_reducible exact spec_DrawSumOf.mono _ _)
      | (with_reducible exact spec_SumOf.mono _ _ _)
      | (with_reducible exact LeO.refl _)
      | (with_reducible exact LeO.none _)
      | (with_reducible refine LeO.ite ?_ ?_)
      | (with_reducible refine LeO.bind ?_ (fun _ => ?_))
      | exact ih0 _ _ _ _ _
      | exact ih1 _ _ _ _ _
      | exact ih2 _ _ _ _ _ _
      | exact ih3 _ _ _ _ _ _ _ _
      | exact impl_SetHas.mono _ _ _
      | exact spec_DrawSumOf.mono _ _
      | exact spec_SumOf.mono _ _ _
      | exact LeO.none _
      | refine LeO.ite ?_ ?_
      | refine LeO.bind ?_ (fun _ => ?_)
theorem laws_FnSumOf.mono : ∀ a0 k, LeO (laws_FnSumOf.f k a0) (laws_FnSumOf.f (k + 1) a0) := by
  intro a0 k
  obtain ⟨ih0, ih1, ih2, ih3⟩ := laws_FnSumOf.mono_l k
  unfold laws_FnSumOf.f
  repeat' first
      | (with_reducible exact ih0 _ _ _ _ _)
      | (with_reducible exact ih1 _ _ _ _ _)
      | (with_reducible exact ih2 _ _ _ _ _ _)
      | (with_reducible exact ih3 _ _ _ _ _ _ _ _)
      | (with_reducible exact impl_SetHas.mono _ _ _)
      | (with_reducible exact spec_DrawSumOf.mono _ _)
      | (with_reducible exact spec_SumOf.mono _ _ _)
      | (with_reducible exact LeO.refl _)
      | (with_reducible exact LeO.none _)
      | (with_reducible refine LeO.ite ?_ ?_)
      | (with_reducible refine LeO.bind ?_ (fun _ => ?_))
      | exact ih0 _ _ _ _ _
      | exact ih1 _ _ _ _ _
      | exact ih2 _ _ _ _ _ _
      | exact ih3 _ _ _ _ _ _ _ _
      | exact impl_SetHas.mono _ _ _
      | exact spec_DrawSumOf.mono _ _
      | exact spec_SumOf.mono _ _ _
      | exact LeO.none _
      | refine LeO.ite ?_ ?_
      | refine LeO.bind ?_ (fun _ => ?_)
set_option maxHeartbeats 8000000 in
set_option maxRecDepth 100000 in
theorem laws_FnSumOf.calls (k : Nat) (A0 : Option Addr) (c0 : Nat) (l0 : List Int) (r : Bool) (w : World) (hr0 : Kd.C (Kd.int .u8) w A0 l0.length l0) (hc0 : l0.length ≤ c0) (h : laws_FnSumOf.f k l0 = some r) :
    Calls Try.prog 4 #[.slice A0 l0.length c0] w fun e w' => e = .returned (.bool r) ∧ Below w.heap.size w w' := by
  have HR0 := Aside0.mk hr0
  have HC0 := Aside0.mk hc0
  clear hr0 hc0
  have HB := Aside0.mk (Below.refl w.heap.size w)
  have H : (if (l0.length : Int) > 1048576 then (some true) else ((spec_DrawSumOf.f k l0).bind fun bt419 => ((impl_SumOf.f bt419.1 bt419.2).bind fun bt421 => ((spec_SumOf.f k bt419.1 bt419.2).bind fun bt423 => (if bt421.1.toList = bt423.1.toList then (laws_FnSumOf.j0 k bt419.1 bt419.2 bt421.1 bt421.2 (bt421.2 == bt423.2)) else (laws_FnSumOf.j0 k bt419.1 bt419.2 bt421.1 bt421.2 false)))))) = some r := h
  clear h
  by_cases c2 : (l0.length : Int) > 1048576
  · rw [if_pos c2] at H
    have c2b0 : decide (1048576 < (l0.length : Int)) = true := decide_eq_true c2
    have c2b1 : decide (1048576 < l0.length) = true := decide_eq_true (by omega)
    clear c2
    obtain rfl := Option.some.inj H
    go_enter Try.func4, Try.ntmps4
    go_wp2
    go_ret
    exact ⟨by first | rfl | (simp [errW_none, errW_some] <;> rfl) | (simp [*, errW_none, errW_some] <;> rfl) | (simp [errW_none, errW_some]; exact ⟨rfl, rfl⟩), by repeat (first | (with_reducible first | exact HB.out | apply below_alloc | apply pw_below_drewN | apply below_drew1) | exact HB.out)⟩
  · rw [if_neg c2] at H
    have c2b0 : decide (1048576 < (l0.length : Int)) = false := decide_eq_false c2
    have c2b1 : decide (1048576 < l0.length) = false := decide_eq_false (by omega)
    clear c2
    replace H := Option.bind_eq_some_iff.mp H
    obtain ⟨⟨t419, t420⟩, A30, H⟩ := H
    replace H : ((impl_SumOf.f t419 t420).bind fun bt421 => ((spec_SumOf.f k t419 t420).bind fun bt423 => (if bt421.1.toList = bt423.1.toList then (laws_FnSumOf.j0 k t419 t420 bt421.1 bt421.2 (bt421.2 == bt423.2)) else (laws_FnSumOf.j0 k t419 t420 bt421.1 bt421.2 false)))) = some r := H
    have A3 := Aside0.mk A30
    clear A30
    replace H := Option.bind_eq_some_iff.mp H
    obtain ⟨⟨t421, t422⟩, A40, H⟩ := H
    replace H : ((spec_SumOf.f k t419 t420).bind fun bt423 => (if t421.toList = bt423.1.toList then (laws_FnSumOf.j0 k t419 t420 t421 t422 (t422 == bt423.2)) else (laws_FnSumOf.j0 k t419 t420 t421 t422 false))) = some r := H
    have A4 := Aside0.mk A40
    clear A40
    replace H := Option.bind_eq_some_iff.mp H
    obtain ⟨⟨t423, t424⟩, A50, H⟩ := H
    replace H : (if t421.toList = t423.toList then (laws_FnSumOf.j0 k t419 t420 t421 t422 (t422 == t424)) else (laws_FnSumOf.j0 k t419 t420 t421 t422 false)) = some r := H
    have A5 := Aside0.mk A50
    clear A50
    have HC6 := Aside0.mk H
    clear H
    go_enter Try.func4, Try.ntmps4
    go_upto_region 6 with (first | ((with_reducible refine gate_callee (f := 13) rfl ?_); refine goesL_ (some 20) rfl rfl Try.func13 (by kernel_rfl) rfl #[.slice A0 l0.length c0] rfl (by (try simp only [List.map_toArray, List.map_cons, List.map_nil]); first | done | rfl | (simp only [List.length_drop, List.length_take]; rfl)) ?_; (with_reducible refine (spec_DrawSumOf.calls k _ _ l0 t419 t420 _ ?side1 ?side2 A3.out).mono ?_); (case side1 => repeat (first | exact HR0.out | (with_reducible refine Kd.C_alloc ?_ _) | (with_reducible refine Kd.C_drewN ?_ _) | (with_reducible refine Kd.C_drew ?_))); (case side2 => exact HC0.out); rintro e w7 ⟨rfl, hb⟩; refine ⟨_, rfl, ?_⟩; have n0_ := Aside0.mk (below_step (by repeat (first | (with_reducible first | exact HB.out | apply below_alloc | apply pw_below_drewN | apply below_drew1) | exact HB.out)) hb); clear HB; have HB := n0_; clear n0_; (try clear hb); (try clear hb2); (try clear hk); (try clear hi)) | ((with_reducible refine gate_callee (f := 14) rfl ?_); refine goesL_ (some 26) rfl rfl Try.func14 (by kernel_rfl) rfl #[.string t419, .string t420] rfl (by (try simp only [List.map_toArray, List.map_cons, List.map_nil]); first | done | rfl | (simp only [List.length_drop, List.length_take]; rfl)) ?_; (with_reducible refine (impl_SumOf.calls t419 t420 t421 t422 _ A4.out).mono ?_); rintro e w8 ⟨rfl, hb⟩; refine ⟨_, rfl, ?_⟩; have n0_ := Aside0.mk (below_step (by repeat (first | (with_reducible first | exact HB.out | apply below_alloc | apply pw_below_drewN | apply below_drew1) | exact HB.out)) hb); clear HB; have HB := n0_; clear n0_; (try clear hb); (try clear hb2); (try clear hk); (try clear hi)) | ((with_reducible refine gate_callee (f := 15) rfl ?_); refine goesL_ (some 32) rfl rfl Try.func15 (by kernel_rfl) rfl #[.string t419, .string t420] rfl (by (try simp only [List.map_toArray, List.map_cons, List.map_nil]); first | done | rfl | (simp only [List.length_drop, List.length_take]; rfl)) ?_; (with_reducible refine (spec_SumOf.calls k t419 t420 t423 t424 _ A5.out).mono ?_); rintro e w9 ⟨rfl, hb⟩; refine ⟨_, rfl, ?_⟩; have n0_ := Aside0.mk (below_step (by repeat (first | (with_reducible first | exact HB.out | apply below_alloc | apply pw_below_drewN | apply below_drew1) | exact HB.out)) hb); clear HB; have HB := n0_; clear n0_; (try clear hb); (try clear hb2); (try clear hk); (try clear hi)))
    (try simp only [Act.put, List.setIfInBounds_toArray, List.set_cons_zero, List.set_cons_succ])
    go_cut [9] (fun v9 wc => ∃ (kq : Nat) (x9_5 : Bool), v9 = .bool x9_5 ∧ Aside0 (laws_FnSumOf.j0 kq t419 t420 t421 t422 x9_5 = some r) ∧ Aside0 (kq ≤ k) ∧ Aside0 (Below w.heap.size w wc))
    case first =>
      have H := HC6.out
      clear HC6
      by_cases c10 : t421.toList = t423.toList
      · rw [if_pos c10] at H
        have c10b0 : (t421.toList == t423.toList) = true := beq_iff_eq.mpr c10
        have c10b1 : (t421.toList != t423.toList) = false := bne_eq_false_iff_eq.mpr c10
        clear c10
        (first | rw [c10b0] | (simp only [i64_w, i32_w]; rw [c10b0]) | skip)
        have H' := Aside0.mk H
        clear H
        go_wp2
        go_meet
        case rel => exact ⟨_, ((t422 == t424)), (by first | rfl | (simp; done) | (simp [*]; done) | (simp [Int.tmod_eq_emod_of_nonneg]; done)), H', ⟨by first | omega | exact Nat.le_refl _⟩, ⟨by repeat (first | (with_reducible first | exact HB.out | apply below_alloc | apply pw_below_drewN | apply below_drew1) | exact HB.out)⟩⟩
      · rw [if_neg c10] at H
        have c10b0 : (t421.toList == t423.toList) = false := beq_eq_false_iff_ne.mpr c10
        have c10b1 : (t421.toList != t423.toList) = true := bne_iff_ne.mpr c10
        (first | rw [c10b0] | (simp only [i64_w, i32_w]; rw [c10b0]) | skip)
        have H' := Aside0.mk H
        clear H
        go_wp2
        go_meet
        case rel => exact ⟨_, (false), (by first | rfl | (simp; done) | (simp [*]; done) | (simp [Int.tmod_eq_emod_of_nonneg]; done)), H', ⟨by first | omega | exact Nat.le_refl _⟩, ⟨by repeat (first | (with_reducible first | exact HB.out | apply below_alloc | apply pw_below_drewN | apply below_drew1) | exact HB.out)⟩⟩
    case rest =>
      clear HC6
      try clear c1
      try clear c2
      try clear c2b0
      try clear c2b1
      try clear p2
      try clear c4
      try clear c10
      try clear c10b0
      try clear c10b1
      obtain ⟨kq, x9_5, rfl, HA, HJ5, HB⟩ := hcut
      cases kq with
      | zero => exact absurd HA.out (by simp [laws_FnSumOf.j0])
      | succ kj5 =>
        have H := HA.out
        clear HA
        simp only [laws_FnSumOf.j0] at H
        have HC11 := Aside0.mk H
        clear H
        go_upto_region 7 with (fail)
        go_cut [48] (fun v48 wc => ∃ (kq : Nat) (x48_10 : Bool), v48 = .bool x48_10 ∧ Aside0 (laws_FnSumOf.j1 kq t419 t420 t421 x9_5 x48_10 = some r) ∧ Aside0 (kq ≤ kj5) ∧ Aside0 (Below w.heap.size w wc))
        case first =>
          have H := HC11.out
          clear HC11
          by_cases c12 : x9_5 = true
          · subst c12
            have H1 : (laws_FnSumOf.j1 kj5 t419 t420 t421 true (!t422)) = some r := by rw [if_pos rfl] at H; exact H
            clear H
            have H := H1
            clear H1
            have H' := Aside0.mk H
            clear H
            go_wp2
            go_meet
            case rel => exact ⟨_, (!t422), (by first | rfl | (simp; done) | (simp [*]; done) | (simp [Int.tmod_eq_emod_of_nonneg]; done)), H', ⟨by have := HJ5.out; first | omega | exact Nat.le_refl _⟩, ⟨by repeat (first | (with_reducible first | exact HB.out | apply below_alloc | apply pw_below_drewN | apply below_drew1) | exact HB.out)⟩⟩
          · replace c12 := Bool.eq_false_iff.mpr c12
            subst c12
            have H1 : (laws_FnSumOf.j1 kj5 t419 t420 t421 false true) = some r := by rw [if_neg (show ¬ (false = true) by decide)] at H; exact H
            clear H
            have H := H1
            clear H1
            have H' := Aside0.mk H
            clear H
            go_wp2
            go_meet
            case rel => exact ⟨_, (true), (by first | rfl | (simp; done) | (simp [*]; done) | (simp [Int.tmod_eq_emod_of_nonneg]; done)), H', ⟨by have := HJ5.out; first | omega | exact Nat.le_refl _⟩, ⟨by repeat (first | (with_reducible first | exact HB.out | apply below_alloc | apply pw_below_drewN | apply below_drew1) | exact HB.out)⟩⟩
        case rest =>
          clear HC11
          try clear c1
          try clear c2
          try clear c2b0
          try clear c2b1
          try clear p2
          try clear c4
          try clear c10
          try clear c10b0
          try clear c10b1
          try clear c12
          try clear p2
          obtain ⟨kq, x48_10, rfl, HA, HJ10, HB⟩ := hcut
          cases kq with
          | zero => exact absurd HA.out (by simp [laws_FnSumOf.j1])
          | succ kj10 =>
            have H := HA.out
            clear HA
            simp only [laws_FnSumOf.j1] at H
            by_cases c13 : x48_10 = true
            · subst c13
              have H1 : (some x9_5) = some r := by rw [if_pos rfl] at H; exact H
              clear H
              have H := H1
              clear H1
              obtain rfl := Option.some.inj H
              go_wp2
              go_ret
              exact ⟨by first | rfl | (simp [errW_none, errW_some] <;> rfl) | (simp [*, errW_none, errW_some] <;> rfl) | (simp [errW_none, errW_some]; exact ⟨rfl, rfl⟩), by repeat (first | (with_reducible first | exact HB.out | apply below_alloc | apply pw_below_drewN | apply below_drew1) | exact HB.out)⟩
            · replace c13 := Bool.eq_false_iff.mpr c13
              subst c13
              have H1 : ((impl_SumOf.f t420 t419).bind fun bt425 => (laws_FnSumOf.l0 kj10 t419 t420 t421 bt425.1 bt425.2 0)) = some r := by rw [if_neg (show ¬ (false = true) by decide)] at H; exact H
              clear H
              have H := H1
              clear H1
              replace H := Option.bind_eq_some_iff.mp H
              obtain ⟨⟨t425, t426⟩, A140, H⟩ := H
              replace H : (laws_FnSumOf.l0 kj10 t419 t420 t421 t425 t426 0) = some r := H
              have A14 := Aside0.mk A140
              clear A140
              have H' := Aside0.mk H
              clear H
              go_wp2_with (first | ((with_reducible refine gate_callee (f := 14) rfl ?_); refine goesL_ (some 53) rfl rfl Try.func14 (by kernel_rfl) rfl #[.string t420, .string t419] rfl (by (try simp only [List.map_toArray, List.map_cons, List.map_nil]); first | done | rfl | (simp only [List.length_drop, List.length_take]; rfl)) ?_; (with_reducible refine (impl_SumOf.calls t420 t419 t425 t426 _ A14.out).mono ?_); rintro e w15 ⟨rfl, hb⟩; refine ⟨_, rfl, ?_⟩; have n0_ := Aside0.mk (below_step (by repeat (first | (with_reducible first | exact HB.out | apply below_alloc | apply pw_below_drewN | apply below_drew1) | exact HB.out)) hb); clear HB; have HB := n0_; clear n0_; (try clear hb); (try clear hb2); (try clear hk); (try clear hi)))
              go_loopg [12] kj10 (fun kq v12 w' => ∃ (x12_3 : Int), v12 = .int .i64 x12_3 ∧ Aside0 (laws_FnSumOf.l0 kq t419 t420 t421 t425 t426 x12_3 = some r) ∧ Aside0 (kq ≤ kj10) ∧ Aside0 (Below w.heap.size w w'))
              case atStart => exact ⟨(0), (by first | rfl | (simp; done) | (simp [*]; done) | (simp [Int.tmod_eq_emod_of_nonneg]; done)), H', ⟨Nat.le_refl _⟩, ⟨by repeat (first | (with_reducible first | exact HB.out | apply below_alloc | apply pw_below_drewN | apply below_drew1) | exact HB.out)⟩⟩
              case round =>
                clear H'
                try clear c1
                try clear c2
                try clear c2b0
                try clear c2b1
                try clear p2
                try clear c4
                try clear c10
                try clear c10b0
                try clear c10b1
                try clear c12
                try clear c13
                try clear c14
                try clear c15
                try clear p2
                obtain ⟨x12_3, rfl, HA, HK3, HB⟩ := hrel
                cases gk with
                | zero => exact absurd HA.out (by simp [laws_FnSumOf.l0])
                | succ k3 =>
                  have H := HA.out
                  clear HA
                  simp only [laws_FnSumOf.l0] at H
                  by_cases c16 : x12_3 ≤ 60
                  · rw [if_pos c16] at H
                    have c16b0 : decide (x12_3 ≤ 60) = true := decide_eq_true c16
                    clear c16
                    have H' := Aside0.mk H
                    clear H
                    go_wp2
                    go_loopg [13, 14] k3 (fun kq v13 v14 w' => ∃ (x13_4 : Bool) (x14_4 : Int), v13 = .bool x13_4 ∧ v14 = .int .i64 x14_4 ∧ Aside0 (laws_FnSumOf.l1 kq t419 t420 t421 t425 t426 x12_3 x13_4 x14_4 = some r) ∧ Aside0 (kq ≤ k3) ∧ Aside0 (Below w.heap.size w w'))
                    case atStart => exact ⟨(false), (0), (by first | rfl | (simp; done) | (simp [*]; done) | (simp [Int.tmod_eq_emod_of_nonneg]; done)), (by first | rfl | (simp; done) | (simp [*]; done) | (simp [Int.tmod_eq_emod_of_nonneg]; done)), H', ⟨Nat.le_refl _⟩, ⟨by repeat (first | (with_reducible first | exact HB.out | apply below_alloc | apply pw_below_drewN | apply below_drew1) | exact HB.out)⟩⟩
                    case round =>
                      clear H'
                      try clear c1
                      try clear c2
                      try clear c2b0
                      try clear c2b1
                      try clear p2
                      try clear c4
                      try clear c10
                      try clear c10b0
                      try clear c10b1
                      try clear c12
                      try clear c13
                      try clear c14
                      try clear c15
                      try clear c16
                      try clear c16b0
                      try clear p2
                      obtain ⟨x13_4, x14_4, rfl, rfl, HA, HK4, HB⟩ := hrel
                      cases gk with
                      | zero => exact absurd HA.out (by simp [laws_FnSumOf.l1])
                      | succ k4 =>
                        have H := HA.out
                        clear HA
                        simp only [laws_FnSumOf.l1] at H
                        by_cases c17 : x14_4 ≤ x12_3
                        · rw [if_pos c17] at H
                          have c17b0 : decide (x14_4 ≤ x12_3) = true := decide_eq_true c17
                          clear c17
                          by_cases c18 : x13_4 = true
                          · subst c18
                            have H1 : (laws_FnSumOf.l1 k4 t419 t420 t421 t425 t426 x12_3 true (wrap64 (x14_4 + 1))) = some r := by rw [if_pos rfl] at H; exact H
                            clear H
                            have H := H1
                            clear H1
                            have H' := Aside0.mk H
                            clear H
                            go_wp2
                            go_roundg k4
                            case measure => have := HJ5.out; have := HJ10.out; have := HK3.out; have := HK4.out; omega
                            case rel => exact ⟨(true), (wrap64 (x14_4 + 1)), (by first | rfl | (simp; done) | (simp [*]; done) | (simp [Int.tmod_eq_emod_of_nonneg]; done)), (by first | rfl | (simp; done) | (simp [*]; done) | (simp [Int.tmod_eq_emod_of_nonneg]; done)), H', ⟨by have := HJ5.out; have := HJ10.out; have := HK3.out; have := HK4.out; omega⟩, ⟨by repeat (first | (with_reducible first | exact HB.out | apply below_alloc | apply pw_below_drewN | apply below_drew1) | exact HB.out)⟩⟩
                          · replace c18 := Bool.eq_false_iff.mpr c18
                            subst c18
                            have H1 : ((impl_SetHas.f k4 t419 x14_4).bind fun t427 => (if t427 = true then ((impl_SetHas.f k4 t420 (wrap64 (x12_3 - x14_4))).bind fun t428 => (laws_FnSumOf.l1 k4 t419 t420 t421 t425 t426 x12_3 t428 (wrap64 (x14_4 + 1)))) else (laws_FnSumOf.l1 k4 t419 t420 t421 t425 t426 x12_3 false (wrap64 (x14_4 + 1))))) = some r := by rw [if_neg (show ¬ (false = true) by decide)] at H; exact H
                            clear H
                            have H := H1
                            clear H1
                            replace H := Option.bind_eq_some_iff.mp H
                            obtain ⟨t427, A190, H⟩ := H
                            replace H : (if t427 = true then ((impl_SetHas.f k4 t420 (wrap64 (x12_3 - x14_4))).bind fun t428 => (laws_FnSumOf.l1 k4 t419 t420 t421 t425 t426 x12_3 t428 (wrap64 (x14_4 + 1)))) else (laws_FnSumOf.l1 k4 t419 t420 t421 t425 t426 x12_3 false (wrap64 (x14_4 + 1)))) = some r := H
                            have A19 := Aside0.mk A190
                            clear A190
                            by_cases c20 : t427 = true
                            · subst c20
                              have H1 : ((impl_SetHas.f k4 t420 (wrap64 (x12_3 - x14_4))).bind fun t428 => (laws_FnSumOf.l1 k4 t419 t420 t421 t425 t426 x12_3 t428 (wrap64 (x14_4 + 1)))) = some r := by rw [if_pos rfl] at H; exact H
                              clear H
                              have H := H1
                              clear H1
                              replace H := Option.bind_eq_some_iff.mp H
                              obtain ⟨t428, A210, H⟩ := H
                              replace H : (laws_FnSumOf.l1 k4 t419 t420 t421 t425 t426 x12_3 t428 (wrap64 (x14_4 + 1))) = some r := H
                              have A21 := Aside0.mk A210
                              clear A210
                              have H' := Aside0.mk H
                              clear H
                              go_wp2_with (first | (go_at_call 12; (with_reducible refine (impl_SetHas.calls k4 t419 x14_4 true _ A19.out).mono ?_); rintro e w22 ⟨rfl, hb⟩; have n0_ := Aside0.mk (below_step (by repeat (first | (with_reducible first | exact HB.out | apply below_alloc | apply pw_below_drewN | apply below_drew1) | exact HB.out)) hb); clear HB; have HB := n0_; clear n0_; (try clear hb); (try clear hb2); (try clear hk); (try clear hi)) | (go_at_call 12; (with_reducible refine (impl_SetHas.calls k4 t420 (wrap64 (x12_3 - x14_4)) t428 _ A21.out).mono ?_); rintro e w23 ⟨rfl, hb⟩; have n0_ := Aside0.mk (below_step (by repeat (first | (with_reducible first | exact HB.out | apply below_alloc | apply pw_below_drewN | apply below_drew1) | exact HB.out)) hb); clear HB; have HB := n0_; clear n0_; (try clear hb); (try clear hb2); (try clear hk); (try clear hi)))
                              go_roundg k4
                              case measure => have := HJ5.out; have := HJ10.out; have := HK3.out; have := HK4.out; omega
                              case rel => exact ⟨(t428), (wrap64 (x14_4 + 1)), (by first | rfl | (simp; done) | (simp [*]; done) | (simp [Int.tmod_eq_emod_of_nonneg]; done)), (by first | rfl | (simp; done) | (simp [*]; done) | (simp [Int.tmod_eq_emod_of_nonneg]; done)), H', ⟨by have := HJ5.out; have := HJ10.out; have := HK3.out; have := HK4.out; omega⟩, ⟨by repeat (first | (with_reducible first | exact HB.out | apply below_alloc | apply pw_below_drewN | apply below_drew1) | exact HB.out)⟩⟩
                            · replace c20 := Bool.eq_false_iff.mpr c20
                              subst c20
                              have H1 : (laws_FnSumOf.l1 k4 t419 t420 t421 t425 t426 x12_3 false (wrap64 (x14_4 + 1))) = some r := by rw [if_neg (show ¬ (false = true) by decide)] at H; exact H
                              clear H
                              have H := H1
                              clear H1
                              have H' := Aside0.mk H
                              clear H
                              go_wp2_with (first | (go_at_call 12; (with_reducible refine (impl_SetHas.calls k4 t419 x14_4 false _ A19.out).mono ?_); rintro e w24 ⟨rfl, hb⟩; have n0_ := Aside0.mk (below_step (by repeat (first | (with_reducible first | exact HB.out | apply below_alloc | apply pw_below_drewN | apply below_drew1) | exact HB.out)) hb); clear HB; have HB := n0_; clear n0_; (try clear hb); (try clear hb2); (try clear hk); (try clear hi)))
                              go_roundg k4
                              case measure => have := HJ5.out; have := HJ10.out; have := HK3.out; have := HK4.out; omega
                              case rel => exact ⟨(false), (wrap64 (x14_4 + 1)), (by first | rfl | (simp; done) | (simp [*]; done) | (simp [Int.tmod_eq_emod_of_nonneg]; done)), (by first | rfl | (simp; done) | (simp [*]; done) | (simp [Int.tmod_eq_emod_of_nonneg]; done)), H', ⟨by have := HJ5.out; have := HJ10.out; have := HK3.out; have := HK4.out; omega⟩, ⟨by repeat (first | (with_reducible first | exact HB.out | apply below_alloc | apply pw_below_drewN | apply below_drew1) | exact HB.out)⟩⟩
                        · rw [if_neg c17] at H
                          have c17b0 : decide (x14_4 ≤ x12_3) = false := decide_eq_false c17
                          clear c17
                          replace H := Option.bind_eq_some_iff.mp H
                          obtain ⟨t429, A250, H⟩ := H
                          replace H : (if (t429 != x13_4) = true then (some false) else (laws_FnSumOf.l0 k4 t419 t420 t421 t425 t426 (wrap64 (x12_3 + 1)))) = some r := H
                          have A25 := Aside0.mk A250
                          clear A250
                          by_cases c26 : (t429 != x13_4) = true
                          · rw [if_pos c26] at H
                            have c26b0 : (t429 != x13_4) = true := c26
                            (try (have c26b1 : decide (t429 = x13_4) = false := by simpa using c26))
                            (try (have c26b2 : (t429 == x13_4) = false := by simpa using c26))
                            (try (have c26b3 : ¬ (t429 = x13_4) := by simpa using c26))
                            clear c26
                            obtain rfl := Option.some.inj H
                            go_wp2_with (first | ((with_reducible refine gate_callee (f := 12) rfl ?_); refine goesL_ (some 80) rfl rfl Try.func12 (by kernel_rfl) rfl #[.string t421, .int .i64 x12_3] rfl (by (try simp only [List.map_toArray, List.map_cons, List.map_nil]); first | done | rfl | (simp only [List.length_drop, List.length_take]; rfl)) ?_; (with_reducible refine (impl_SetHas.calls k4 t421 x12_3 t429 _ A25.out).mono ?_); rintro e w27 ⟨rfl, hb⟩; refine ⟨_, rfl, ?_⟩; have n0_ := Aside0.mk (below_step (by repeat (first | (with_reducible first | exact HB.out | apply below_alloc | apply pw_below_drewN | apply below_drew1) | exact HB.out)) hb); clear HB; have HB := n0_; clear n0_; (try clear hb); (try clear hb2); (try clear hk); (try clear hi)))
                            go_ret
                            exact ⟨by first | rfl | (simp [errW_none, errW_some] <;> rfl) | (simp [*, errW_none, errW_some] <;> rfl) | (simp [errW_none, errW_some]; exact ⟨rfl, rfl⟩), by repeat (first | (with_reducible first | exact HB.out | apply below_alloc | apply pw_below_drewN | apply below_drew1) | exact HB.out)⟩
                          · rw [if_neg c26] at H
                            have c26b0 : (t429 != x13_4) = false := by simpa using c26
                            (try (have c26b1 : decide (t429 = x13_4) = true := by simpa using c26))
                            (try (have c26b2 : (t429 == x13_4) = true := by simpa using c26))
                            clear c26
                            have H' := Aside0.mk H
                            clear H
                            go_wp2_with (first | ((with_reducible refine gate_callee (f := 12) rfl ?_); refine goesL_ (some 80) rfl rfl Try.func12 (by kernel_rfl) rfl #[.string t421, .int .i64 x12_3] rfl (by (try simp only [List.map_toArray, List.map_cons, List.map_nil]); first | done | rfl | (simp only [List.length_drop, List.length_take]; rfl)) ?_; (with_reducible refine (impl_SetHas.calls k4 t421 x12_3 t429 _ A25.out).mono ?_); rintro e w28 ⟨rfl, hb⟩; refine ⟨_, rfl, ?_⟩; have n0_ := Aside0.mk (below_step (by repeat (first | (with_reducible first | exact HB.out | apply below_alloc | apply pw_below_drewN | apply below_drew1) | exact HB.out)) hb); clear HB; have HB := n0_; clear n0_; (try clear hb); (try clear hb2); (try clear hk); (try clear hi)))
                            go_roundg k4
                            case measure => have := HJ5.out; have := HJ10.out; have := HK3.out; have := HK4.out; omega
                            case rel => exact ⟨(wrap64 (x12_3 + 1)), (by first | rfl | (simp; done) | (simp [*]; done) | (simp [Int.tmod_eq_emod_of_nonneg]; done)), H', ⟨by have := HJ5.out; have := HJ10.out; have := HK3.out; have := HK4.out; omega⟩, ⟨by repeat (first | (with_reducible first | exact HB.out | apply below_alloc | apply pw_below_drewN | apply below_drew1) | exact HB.out)⟩⟩
                  · rw [if_neg c16] at H
                    have c16b0 : decide (x12_3 ≤ 60) = false := decide_eq_false c16
                    clear c16
                    by_cases c29 : t426 = true
                    · subst c29
                      have H1 : (some (t425.toList == t421.toList)) = some r := by rw [if_pos rfl] at H; exact H
                      clear H
                      have H := H1
                      clear H1
                      obtain rfl := Option.some.inj H
                      go_wp2
                      go_ret
                      exact ⟨by first | rfl | (simp [errW_none, errW_some] <;> rfl) | (simp [*, errW_none, errW_some] <;> rfl) | (simp [errW_none, errW_some]; exact ⟨rfl, rfl⟩), by repeat (first | (with_reducible first | exact HB.out | apply below_alloc | apply pw_below_drewN | apply below_drew1) | exact HB.out)⟩
                    · replace c29 := Bool.eq_false_iff.mpr c29
                      subst c29
                      have H1 : (some false) = some r := by rw [if_neg (show ¬ (false = true) by decide)] at H; exact H
                      clear H
                      have H := H1
                      clear H1
                      obtain rfl := Option.some.inj H
                      go_wp2
                      go_ret
                      exact ⟨by first | rfl | (simp [errW_none, errW_some] <;> rfl) | (simp [*, errW_none, errW_some] <;> rfl) | (simp [errW_none, errW_some]; exact ⟨rfl, rfl⟩), by repeat (first | (with_reducible first | exact HB.out | apply below_alloc | apply pw_below_drewN | apply below_drew1) | exact HB.out)⟩

/-- THE ONE PURE STATEMENT of laws_FnSumOf: yours. -/
noncomputable def laws_FnSumOf.Pure : Prop := ∀ (l0 : List Int), l0.length ≤ maxLen → l0.length * 1 ≤ 140737488351232 → (∀ x ∈ l0, (Lit.int .u8 x).wf = true) → ∃ k, laws_FnSumOf.f k l0 = some true
theorem laws_FnSumOf.walk (P : laws_FnSumOf.Pure) (a0 : Option Addr) (len0 cap0 : Nat) (z0 : List Int) (w : World) (w0 : (a0 = none ∧ len0 = 0 ∧ cap0 = 0 ∧ z0 = []) ∨ ∃ x, a0 = some x ∧ len0 ≤ cap0 ∧ cap0 ≤ maxLen ∧ z0.length = cap0 ∧ (∀ i, i < z0.length → w.cell? (x.add i) = some (.int .u8 (z0.getD i 0))) ∧ ∀ n ∈ z0, (Lit.int .u8 n).wf = true) (y0 : len0 * 1 ≤ 140737488351232) :
    Calls Try.prog 4 #[.slice a0 len0 cap0] w fun e w' => e = .returned (.bool true) ∧ Below w.heap.size w w' := by
  obtain ⟨l0, rfl, hr0, hm0, hw0, hc0⟩ := ReadsInt.ofRowC w0
  obtain ⟨k, h⟩ := P l0 hm0 y0 hw0
  refine (laws_FnSumOf.calls k _ _ l0 true w (Kd.C_of_reads (d := (0 : Int)) (h1 := fun _ => rfl) hr0) hc0 h).mono ?_
  rintro e w' ⟨rfl, hd⟩
  exact ⟨rfl, hd⟩

end Go.Proofs.Ytaebonckcbhofaa.P

-- For every code the law FnSumOf holds.
namespace Go.Proofs.Ytaebonckcbhofaa.P
open Go.RowKit Go.Proofs.YtaebonckcbhofaaW.PrintWords Go.Proofs.YtaebonckcbhofaaW.PrintLast Go.Proofs.YtaebonckcbhofaaW.PrintMore
set_option linter.unusedVariables false
set_option linter.unusedSimpArgs false

theorem drawSumOf_f (l : List Int) (h : ∀ x ∈ l, (Lit.int .u8 x).wf = true) : ∃ (s t : ByteArray), Few s ∧ Few t ∧ Ev (fun k => spec_DrawSumOf.f k l) (s, t) := by
  obtain ⟨s, q, hf, hq, K0, h0⟩ := set91_f (code_of h) 0 (by omega)
  dsimp only at h0
  have g0 : ∀ k, K0 ≤ k → spec_l91Set.f k (l.take 2000) 0 = some (s, (q : Int)) := h0
  obtain ⟨t, q2, hf2, hq2, K1, h1⟩ := set91_f (code_of h) q (by omega)
  dsimp only at h1
  have g1 : ∀ k, K1 ≤ k → spec_l91Set.f k (l.take 2000) (q : Int) = some (t, (q2 : Int)) := h1
  refine ⟨s, t, hf, hf2, K0 + K1, fun k hk => ?_⟩
  try dsimp only
  unfold spec_DrawSumOf.f
  rw [open_f, Option.bind_some, g0 k (by omega), Option.bind_some, g1 k (by omega), Option.bind_some]
/-- The sums whose first part is less than i. -/
noncomputable def suU (f g : Nat → Bool) (n i : Nat) : Bool := dec (∃ j, j < i ∧ j ≤ n ∧ f j = true ∧ g (n - j) = true)
theorem suU_zero (f g : Nat → Bool) (n : Nat) : suU f g n 0 = false := dec_false fun ⟨j, h, _⟩ => by omega
theorem suU_end {f g : Nat → Bool} {n i : Nat} (h : n < i) : suU f g n i = sumq f g n := dec_congr ⟨fun ⟨j, _, b⟩ => ⟨j, b⟩, fun ⟨j, b⟩ => ⟨j, by omega, b⟩⟩
theorem suU_old {f g : Nat → Bool} {n i : Nat} (h : suU f g n i = true) : suU f g n (i + 1) = true := by
  obtain ⟨j, a, b⟩ := dec_iff.1 h
  exact dec_true ⟨j, by omega, b⟩
theorem suU_new {f g : Nat → Bool} {n i : Nat} (hi : i ≤ n) (h : suU f g n i = false) : suU f g n (i + 1) = (f i && g (n - i)) := by
  rw [Bool.eq_iff_iff, Bool.and_eq_true]
  constructor
  · intro h2
    obtain ⟨j, a, b, c, d⟩ := dec_iff.1 h2
    rcases Nat.lt_or_ge j i with x | x
    · have : suU f g n i = true := dec_true ⟨j, x, b, c, d⟩
      rw [h] at this; cases this
    · rw [show j = i by omega] at c d; exact ⟨c, d⟩
  · rintro ⟨a, b⟩; exact dec_true ⟨i, Nat.lt_succ_self _, hi, a, b⟩
theorem lawSumOf_l1 (s t x0 y0 : ByteArray) (yb : Bool) (hs : s.size ≤ 70368744177664) (ht : t.size ≤ 70368744177664) (hx : x0.size ≤ 122) (n : Nat) (hn : n ≤ 60) (hq : setf (chrs x0) = sumq (setf (chrs s)) (setf (chrs t))) (h3 : Ev (fun k => laws_FnSumOf.l0 k s t x0 y0 yb ((n + 1 : Nat) : Int)) true) : ∀ (d i : Nat), i ≤ n + 1 → n + 1 - i = d →
    Ev (fun k => laws_FnSumOf.l1 k s t x0 y0 yb n (suU (setf (chrs s)) (setf (chrs t)) n i) i) true := by
  intro d
  induction d with
  | zero =>
    intro i hi hd
    obtain ⟨K3, h3⟩ := h3
    dsimp only at h3
    obtain ⟨K1, h1⟩ := isetHas_f x0 (by omega) n (by omega)
    dsimp only at h1
    rw [hq] at h1
    rw [suU_end (by omega)]
    refine ⟨K1 + K3 + 1, fun k hk => ?_⟩
    obtain ⟨k, rfl, hk2⟩ := down1 hk
    simp only [laws_FnSumOf.l1]
    rw [if_neg (by omega), h1 k (by omega), Option.bind_some, if_neg (bne_no _), wsucc (by omega)]
    exact h3 k (by omega)
  | succ d ih =>
    intro i hi hd
    obtain ⟨K2, h2⟩ := ih (i + 1) (by omega) (by omega)
    dsimp only at h2
    obtain ⟨K4, h4⟩ := isetHas_f s hs i (by omega)
    dsimp only at h4
    obtain ⟨K5, h5⟩ := isetHas_f t ht (n - i) (by omega)
    dsimp only at h5
    have c2 : i ≤ n := by omega
    cases hu : suU (setf (chrs s)) (setf (chrs t)) n i with
    | true =>
      rw [suU_old hu] at h2
      refine ⟨K2 + 1, fun k hk => ?_⟩
      obtain ⟨k, rfl, hk2⟩ := down1 hk
      simp only [laws_FnSumOf.l1]
      rw [if_pos (by omega), if_pos (by trivial), wsucc (by omega)]
      exact h2 k hk2
    | false =>
      rw [suU_new c2 hu] at h2
      refine ⟨K2 + K4 + K5 + 1, fun k hk => ?_⟩
      obtain ⟨k, rfl, hk2⟩ := down1 hk
      simp only [laws_FnSumOf.l1]
      rw [if_pos (by omega), if_neg (by decide), h4 k (by omega), Option.bind_some]
      cases hv : setf (chrs s) i with
      | true =>
        rw [hv, Bool.true_and] at h2
        rw [if_pos (by trivial), wsub c2 (by omega), h5 k (by omega), Option.bind_some, wsucc (by omega)]
        exact h2 k (by omega)
      | false =>
        rw [hv, Bool.false_and] at h2
        rw [if_neg (by decide), wsucc (by omega)]
        exact h2 k (by omega)
theorem lawSumOf_l0 (s t x0 : ByteArray) (hs : s.size ≤ 70368744177664) (ht : t.size ≤ 70368744177664) (hx : x0.size ≤ 122) (hq : setf (chrs x0) = sumq (setf (chrs s)) (setf (chrs t))) : ∀ (d n : Nat), n ≤ 61 → 61 - n = d →
    Ev (fun k => laws_FnSumOf.l0 k s t x0 x0 true n) true := by
  intro d
  induction d with
  | zero =>
    intro n hn hd
    refine ⟨1, fun k hk => ?_⟩
    obtain ⟨k, rfl, hk2⟩ := down1 hk
    simp only [laws_FnSumOf.l0]
    rw [if_neg (by omega), if_pos (by trivial), BEq.rfl]
  | succ d ih =>
    intro n hn hd
    have hx1 := lawSumOf_l1 s t x0 x0 true hs ht hx n (by omega) hq (ih (n + 1) (by omega) (by omega)) _ 0 (Nat.zero_le _) rfl
    rw [suU_zero] at hx1
    obtain ⟨K2, h2⟩ := hx1
    dsimp only at h2
    refine ⟨K2 + 1, fun k hk => ?_⟩
    obtain ⟨k, rfl, hk2⟩ := down1 hk
    simp only [laws_FnSumOf.l0]
    rw [if_pos (by omega)]
    exact h2 k hk2
theorem lawSumOf_ev (l : List Int) (h : ∀ x ∈ l, (Lit.int .u8 x).wf = true) : Ev (fun k => laws_FnSumOf.f k l) true := by
  by_cases hl : (l.length : Int) > 1048576
  · exact ⟨0, fun k _ => by dsimp only; unfold laws_FnSumOf.f; rw [if_pos hl]⟩
  · obtain ⟨s, t, hf, hf2, K1, h1⟩ := drawSumOf_f l h
    dsimp only at h1
    have hz := hf.size
    have hs : s.size ≤ 70368744177664 := by omega
    have hz2 := hf2.size
    have ht : t.size ≤ 70368744177664 := by omega
    obtain ⟨K2, h2⟩ := ssumOf_f s t hs ht
    dsimp only at h2
    have h3 := sumOf_f s t hs ht
    have h5 := sumOf_f t s ht hs
    rw [smr_comm] at h5
    have main : Ev (fun k => laws_FnSumOf.j0 k s t (smr (chrs s) (chrs t)).1 (smr (chrs s) (chrs t)).2 true) true := by
      cases h4 : (smr (chrs s) (chrs t)).2 with
      | false =>
        refine Ev.step (f := fun k => laws_FnSumOf.j1 k s t (smr (chrs s) (chrs t)).1 true true) (fun k => ?_) (Ev.step (f := fun k => some true) (fun k => ?_) (Ev.now _))
        · simp only [laws_FnSumOf.j0]; rfl
        · simp only [laws_FnSumOf.j1]; rfl
      | true =>
        obtain ⟨m, p, hp0, hper, he, hA⟩ := smr_ok h4
        rw [he] at h5 ⊢
        refine Ev.step (f := fun k => laws_FnSumOf.j1 k s t (txt (cn (sumq (setf (chrs s)) (setf (chrs t))))).1 true false) (fun k => ?_) (Ev.step (fun k => ?_) (lawSumOf_l0 s t _ hs ht (txt_size _) (txt_setf hp0 hper hA) _ 0 (by omega) rfl))
        · simp only [laws_FnSumOf.j0]; rfl
        · simp only [laws_FnSumOf.j1]
          rw [if_neg (by decide), h5, Option.bind_some, hA]; rfl
    obtain ⟨K4, h4⟩ := main
    dsimp only at h4
    refine ⟨K1 + K2 + K4, fun k hk => ?_⟩
    try dsimp only
    unfold laws_FnSumOf.f
    rw [if_neg hl, h1 k (by omega), Option.bind_some]
    try dsimp only
    rw [h3, Option.bind_some, h2 k (by omega), Option.bind_some, if_pos (by trivial), BEq.rfl]
    exact h4 k (by omega)
theorem lawSumOf_pure : laws_FnSumOf.Pure := fun l _ _ h => (lawSumOf_ev l h).rounds
end Go.Proofs.Ytaebonckcbhofaa.P

-- For every code the law FnSumOf holds.
namespace Go.Proofs.Ytaebonckcbhofaa.Pure
theorem FnSumOf : Go.Proofs.Ytaebonckcbhofaa.P.laws_FnSumOf.Pure := Go.Proofs.Ytaebonckcbhofaa.P.lawSumOf_pure
end Go.Proofs.Ytaebonckcbhofaa.Pure
