/- What these laws reach, joined by a program of this session: contracts (written by that program over the kit's print, or by hand) and plain lemmas. -/
import Derived.Test.YtfoolgjofinmlaaK1
import Derived.Test.YtfoolgjofinmlaaK4
import Derived.Test.YtfoolgjofinmlaaK5
import Derived.Test.YtfoolgjofinmlaaK6
namespace Go.Proofs.Ytfoolgjofinmlaa.P
open Go.RowKit Go.Proofs.YtfoolgjofinmlaaW.PrintWords Go.Proofs.YtfoolgjofinmlaaW.PrintLast Go.Proofs.YtfoolgjofinmlaaW.PrintMore
attribute [local go_sem] max2_int min2_int max_two min_two max_three min_three max_four min_four   -- for this text's walks alone
set_option linter.unusedVariables false
set_option linter.unusedSimpArgs false

/-! ### laws_FnMakeSplit: function 7 -/
noncomputable def laws_FnMakeSplit.j0 : Nat → ByteArray → ByteArray → ByteArray → Bool → ByteArray → Bool → Bool → Option (Bool)
  | 0, _, _, _, _, _, _, _ => none
  | k + 1, x3, x4, x5, x6, x7, x8, x46 => if x46 = true then (if x5.toList = x7.toList then (some (x6 == x8)) else (some false)) else ((impl_MakeWithout.f x3 x4).bind fun bt454 => ((impl_MakeEither.f x5 bt454.1).bind fun bt456 => ((impl_SetTidy.f k x3).bind fun bt458 => (if bt454.2 = true then (if bt456.2 = true then (if bt458.2 = true then (some (bt456.1.toList == bt458.1.toList)) else (some false)) else (some true)) else (some true)))))
noncomputable def laws_FnMakeSplit.f (k : Nat) (l0 : List Int) : Option (Bool) := if (l0.length : Int) > 1048576 then (some true) else ((spec_DrawMakeBoth.f k l0).bind fun bt448 => ((impl_MakeBoth.f bt448.1 bt448.2).bind fun bt450 => ((spec_MakeBoth.f k bt448.1 bt448.2).bind fun bt452 => (if bt450.1.toList = bt452.1.toList then (if (bt450.2 != bt452.2) = true then (laws_FnMakeSplit.j0 k bt448.1 bt448.2 bt450.1 bt450.2 bt452.1 bt452.2 true) else (laws_FnMakeSplit.j0 k bt448.1 bt448.2 bt450.1 bt450.2 bt452.1 bt452.2 (!bt450.2))) else (laws_FnMakeSplit.j0 k bt448.1 bt448.2 bt450.1 bt450.2 bt452.1 bt452.2 true)))))
theorem laws_FnMakeSplit.mono_l : ∀ k, (∀ y0 y1 y2 y3 y4 y5 y6, LeO (laws_FnMakeSplit.j0 k y0 y1 y2 y3 y4 y5 y6) (laws_FnMakeSplit.j0 (k + 1) y0 y1 y2 y3 y4 y5 y6))
  | 0 => fun _ _ _ _ _ _ _ r h => by simp [laws_FnMakeSplit.j0] at h
  | k + 1 => by
    have ih0 := laws_FnMakeSplit.mono_l k
    · intro y0 y1 y2 y3 y4 y5 y6
      unfold laws_FnMakeSplit.j0
      repeat' first
      | (with_reducible exact ih0 _ _ _ _ _ _ _)
      | (with_reducible exact impl_SetTidy.mono _ _)
      | (with_reducible exact spec_DrawMakeBoth.mono _ _)
      | (with_reducible exact spec_MakeBoth.mono _ _ _)
      | (with_reducible exact LeO.refl _)
      | (with_reducible exact LeO.none _)
      | (with_reducible refine LeO.ite ?_ ?_)
      | (with_reducible refine LeO.bind ?_ (fun _ => ?_))
      | exact ih0 _ _ _ _ _ _ _
      | exact impl_SetTidy.mono _ _
      | exact spec_DrawMakeBoth.mono _ _
      | exact spec_MakeBoth.mono _ _ _
      | exact LeO.none _
      | refine LeO.ite ?_ ?_
      | refine LeO.bind ?_ (fun _ => ?_)
theorem laws_FnMakeSplit.mono : ∀ a0 k, LeO (laws_FnMakeSplit.f k a0) (laws_FnMakeSplit.f (k + 1) a0) := by
  intro a0 k
  have ih0 := laws_FnMakeSplit.mono_l k
  unfold laws_FnMakeSplit.f
  repeat' first
      | (with_reducible exact ih0 _ _ _ _ _ _ _)
      | (with_reducible exact impl_SetTidy.mono _ _)
      | (with_reducible exact spec_DrawMakeBoth.mono _ _)
      | (with_reducible exact spec_MakeBoth.mono _ _ _)
      | (with_reducible exact LeO.refl _)
      | (with_reducible exact LeO.none _)
      | (with_reducible refine LeO.ite ?_ ?_)
      | (with_reducible refine LeO.bind ?_ (fun _ => ?_))
      | exact ih0 _ _ _ _ _ _ _
      | exact impl_SetTidy.mono _ _
      | exact spec_DrawMakeBoth.mono _ _
      | exact spec_MakeBoth.mono _ _ _
      | exact LeO.none _
      | refine LeO.ite ?_ ?_
      | refine LeO.bind ?_ (fun _ => ?_)
set_option maxHeartbeats 8000000 in
set_option maxRecDepth 100000 in
theorem laws_FnMakeSplit.calls (k : Nat) (A0 : Option Addr) (c0 : Nat) (l0 : List Int) (r : Bool) (w : World) (hr0 : Kd.C (Kd.int .u8) w A0 l0.length l0) (hc0 : l0.length ≤ c0) (h : laws_FnMakeSplit.f k l0 = some r) :
    Calls Try.prog 7 #[.slice A0 l0.length c0] w fun e w' => e = .returned (.bool r) ∧ Below w.heap.size w w' := by
  have HR0 := Aside0.mk hr0
  have HC0 := Aside0.mk hc0
  clear hr0 hc0
  have HB := Aside0.mk (Below.refl w.heap.size w)
  have H : (if (l0.length : Int) > 1048576 then (some true) else ((spec_DrawMakeBoth.f k l0).bind fun bt448 => ((impl_MakeBoth.f bt448.1 bt448.2).bind fun bt450 => ((spec_MakeBoth.f k bt448.1 bt448.2).bind fun bt452 => (if bt450.1.toList = bt452.1.toList then (if (bt450.2 != bt452.2) = true then (laws_FnMakeSplit.j0 k bt448.1 bt448.2 bt450.1 bt450.2 bt452.1 bt452.2 true) else (laws_FnMakeSplit.j0 k bt448.1 bt448.2 bt450.1 bt450.2 bt452.1 bt452.2 (!bt450.2))) else (laws_FnMakeSplit.j0 k bt448.1 bt448.2 bt450.1 bt450.2 bt452.1 bt452.2 true)))))) = some r := h
  clear h
  by_cases c2 : (l0.length : Int) > 1048576
  · rw [if_pos c2] at H
    have c2b0 : decide (1048576 < (l0.length : Int)) = true := decide_eq_true c2
    have c2b1 : decide (1048576 < l0.length) = true := decide_eq_true (by omega)
    clear c2
    obtain rfl := Option.some.inj H
    go_enter Try.func7, Try.ntmps7
    go_wp2
    go_ret
    exact ⟨by first | rfl | (simp [errW_none, errW_some] <;> rfl) | (simp [*, errW_none, errW_some] <;> rfl) | (simp [errW_none, errW_some]; exact ⟨rfl, rfl⟩), by repeat (first | (with_reducible first | exact HB.out | apply below_alloc | apply pw_below_drewN | apply below_drew1) | exact HB.out)⟩
  · rw [if_neg c2] at H
    have c2b0 : decide (1048576 < (l0.length : Int)) = false := decide_eq_false c2
    have c2b1 : decide (1048576 < l0.length) = false := decide_eq_false (by omega)
    clear c2
    replace H := Option.bind_eq_some_iff.mp H
    obtain ⟨⟨t448, t449⟩, A30, H⟩ := H
    replace H : ((impl_MakeBoth.f t448 t449).bind fun bt450 => ((spec_MakeBoth.f k t448 t449).bind fun bt452 => (if bt450.1.toList = bt452.1.toList then (if (bt450.2 != bt452.2) = true then (laws_FnMakeSplit.j0 k t448 t449 bt450.1 bt450.2 bt452.1 bt452.2 true) else (laws_FnMakeSplit.j0 k t448 t449 bt450.1 bt450.2 bt452.1 bt452.2 (!bt450.2))) else (laws_FnMakeSplit.j0 k t448 t449 bt450.1 bt450.2 bt452.1 bt452.2 true)))) = some r := H
    have A3 := Aside0.mk A30
    clear A30
    replace H := Option.bind_eq_some_iff.mp H
    obtain ⟨⟨t450, t451⟩, A40, H⟩ := H
    replace H : ((spec_MakeBoth.f k t448 t449).bind fun bt452 => (if t450.toList = bt452.1.toList then (if (t451 != bt452.2) = true then (laws_FnMakeSplit.j0 k t448 t449 t450 t451 bt452.1 bt452.2 true) else (laws_FnMakeSplit.j0 k t448 t449 t450 t451 bt452.1 bt452.2 (!t451))) else (laws_FnMakeSplit.j0 k t448 t449 t450 t451 bt452.1 bt452.2 true))) = some r := H
    have A4 := Aside0.mk A40
    clear A40
    replace H := Option.bind_eq_some_iff.mp H
    obtain ⟨⟨t452, t453⟩, A50, H⟩ := H
    replace H : (if t450.toList = t452.toList then (if (t451 != t453) = true then (laws_FnMakeSplit.j0 k t448 t449 t450 t451 t452 t453 true) else (laws_FnMakeSplit.j0 k t448 t449 t450 t451 t452 t453 (!t451))) else (laws_FnMakeSplit.j0 k t448 t449 t450 t451 t452 t453 true)) = some r := H
    have A5 := Aside0.mk A50
    clear A50
    have HC6 := Aside0.mk H
    clear H
    go_enter Try.func7, Try.ntmps7
    go_upto_region 6 with (first | ((with_reducible refine gate_callee (f := 9) rfl ?_); refine goesL_ (some 20) rfl rfl Try.func9 (by kernel_rfl) rfl #[.slice A0 l0.length c0] rfl (by (try simp only [List.map_toArray, List.map_cons, List.map_nil]); first | done | rfl | (simp only [List.length_drop, List.length_take]; rfl)) ?_; (with_reducible refine (spec_DrawMakeBoth.calls k _ _ l0 t448 t449 _ ?side1 ?side2 A3.out).mono ?_); (case side1 => repeat (first | exact HR0.out | (with_reducible refine Kd.C_alloc ?_ _) | (with_reducible refine Kd.C_drewN ?_ _) | (with_reducible refine Kd.C_drew ?_))); (case side2 => exact HC0.out); rintro e w7 ⟨rfl, hb⟩; refine ⟨_, rfl, ?_⟩; have n0_ := Aside0.mk (below_step (by repeat (first | (with_reducible first | exact HB.out | apply below_alloc | apply pw_below_drewN | apply below_drew1) | exact HB.out)) hb); clear HB; have HB := n0_; clear n0_; (try clear hb); (try clear hb2); (try clear hk); (try clear hi)) | ((with_reducible refine gate_callee (f := 10) rfl ?_); refine goesL_ (some 26) rfl rfl Try.func10 (by kernel_rfl) rfl #[.string t448, .string t449] rfl (by (try simp only [List.map_toArray, List.map_cons, List.map_nil]); first | done | rfl | (simp only [List.length_drop, List.length_take]; rfl)) ?_; (with_reducible refine (impl_MakeBoth.calls t448 t449 t450 t451 _ A4.out).mono ?_); rintro e w8 ⟨rfl, hb⟩; refine ⟨_, rfl, ?_⟩; have n0_ := Aside0.mk (below_step (by repeat (first | (with_reducible first | exact HB.out | apply below_alloc | apply pw_below_drewN | apply below_drew1) | exact HB.out)) hb); clear HB; have HB := n0_; clear n0_; (try clear hb); (try clear hb2); (try clear hk); (try clear hi)) | ((with_reducible refine gate_callee (f := 11) rfl ?_); refine goesL_ (some 32) rfl rfl Try.func11 (by kernel_rfl) rfl #[.string t448, .string t449] rfl (by (try simp only [List.map_toArray, List.map_cons, List.map_nil]); first | done | rfl | (simp only [List.length_drop, List.length_take]; rfl)) ?_; (with_reducible refine (spec_MakeBoth.calls k t448 t449 t452 t453 _ A5.out).mono ?_); rintro e w9 ⟨rfl, hb⟩; refine ⟨_, rfl, ?_⟩; have n0_ := Aside0.mk (below_step (by repeat (first | (with_reducible first | exact HB.out | apply below_alloc | apply pw_below_drewN | apply below_drew1) | exact HB.out)) hb); clear HB; have HB := n0_; clear n0_; (try clear hb); (try clear hb2); (try clear hk); (try clear hi)))
    (try simp only [Act.put, List.setIfInBounds_toArray, List.set_cons_zero, List.set_cons_succ])
    go_cut [46] (fun v46 wc => ∃ (kq : Nat) (x46_5 : Bool), v46 = .bool x46_5 ∧ Aside0 (laws_FnMakeSplit.j0 kq t448 t449 t450 t451 t452 t453 x46_5 = some r) ∧ Aside0 (kq ≤ k) ∧ Aside0 (Below w.heap.size w wc))
    case first =>
      have H := HC6.out
      clear HC6
      by_cases c10 : t450.toList = t452.toList
      · rw [if_pos c10] at H
        have c10b0 : (t450.toList == t452.toList) = true := beq_iff_eq.mpr c10
        have c10b1 : (t450.toList != t452.toList) = false := bne_eq_false_iff_eq.mpr c10
        clear c10
        (first | rw [c10b0] | (simp only [i64_w, i32_w]; rw [c10b0]) | skip)
        by_cases c11 : (t451 != t453) = true
        · rw [if_pos c11] at H
          have c11b0 : (t451 != t453) = true := c11
          (try (have c11b1 : decide (t451 = t453) = false := by simpa using c11))
          (try (have c11b2 : (t451 == t453) = false := by simpa using c11))
          (try (have c11b3 : ¬ (t451 = t453) := by simpa using c11))
          clear c11
          have H' := Aside0.mk H
          clear H
          go_wp2
          go_meet
          case rel => exact ⟨_, (true), (by first | rfl | (simp; done) | (simp [*]; done) | (simp [Int.tmod_eq_emod_of_nonneg]; done)), H', ⟨by first | omega | exact Nat.le_refl _⟩, ⟨by repeat (first | (with_reducible first | exact HB.out | apply below_alloc | apply pw_below_drewN | apply below_drew1) | exact HB.out)⟩⟩
        · rw [if_neg c11] at H
          have c11b0 : (t451 != t453) = false := by simpa using c11
          (try (have c11b1 : decide (t451 = t453) = true := by simpa using c11))
          (try (have c11b2 : (t451 == t453) = true := by simpa using c11))
          clear c11
          have H' := Aside0.mk H
          clear H
          go_wp2
          go_meet
          case rel => exact ⟨_, (!t451), (by first | rfl | (simp; done) | (simp [*]; done) | (simp [Int.tmod_eq_emod_of_nonneg]; done)), H', ⟨by first | omega | exact Nat.le_refl _⟩, ⟨by repeat (first | (with_reducible first | exact HB.out | apply below_alloc | apply pw_below_drewN | apply below_drew1) | exact HB.out)⟩⟩
      · rw [if_neg c10] at H
        have c10b0 : (t450.toList == t452.toList) = false := beq_eq_false_iff_ne.mpr c10
        have c10b1 : (t450.toList != t452.toList) = true := bne_iff_ne.mpr c10
        (first | rw [c10b0] | (simp only [i64_w, i32_w]; rw [c10b0]) | skip)
        have H' := Aside0.mk H
        clear H
        go_wp2
        go_meet
        case rel => exact ⟨_, (true), (by first | rfl | (simp; done) | (simp [*]; done) | (simp [Int.tmod_eq_emod_of_nonneg]; done)), H', ⟨by first | omega | exact Nat.le_refl _⟩, ⟨by repeat (first | (with_reducible first | exact HB.out | apply below_alloc | apply pw_below_drewN | apply below_drew1) | exact HB.out)⟩⟩
    case rest =>
      clear HC6
      try clear c1
      try clear c2
      try clear c2b0
      try clear c2b1
      try clear p2
      try clear c7
      try clear c9
      try clear c10
      try clear c10b0
      try clear c10b1
      try clear c11
      try clear c11b0
      try clear c11b1
      try clear c11b2
      obtain ⟨kq, x46_5, rfl, HA, HJ5, HB⟩ := hcut
      cases kq with
      | zero => exact absurd HA.out (by simp [laws_FnMakeSplit.j0])
      | succ kj5 =>
        have H := HA.out
        clear HA
        simp only [laws_FnMakeSplit.j0] at H
        by_cases c12 : x46_5 = true
        · subst c12
          have H1 : (if t450.toList = t452.toList then (some (t451 == t453)) else (some false)) = some r := by rw [if_pos rfl] at H; exact H
          clear H
          have H := H1
          clear H1
          by_cases c13 : t450.toList = t452.toList
          · rw [if_pos c13] at H
            have c13b0 : (t450.toList == t452.toList) = true := beq_iff_eq.mpr c13
            have c13b1 : (t450.toList != t452.toList) = false := bne_eq_false_iff_eq.mpr c13
            clear c13
            obtain rfl := Option.some.inj H
            go_wp2
            go_ret
            exact ⟨by first | rfl | (simp [errW_none, errW_some] <;> rfl) | (simp [*, errW_none, errW_some] <;> rfl) | (simp [errW_none, errW_some]; exact ⟨rfl, rfl⟩), by repeat (first | (with_reducible first | exact HB.out | apply below_alloc | apply pw_below_drewN | apply below_drew1) | exact HB.out)⟩
          · rw [if_neg c13] at H
            have c13b0 : (t450.toList == t452.toList) = false := beq_eq_false_iff_ne.mpr c13
            have c13b1 : (t450.toList != t452.toList) = true := bne_iff_ne.mpr c13
            obtain rfl := Option.some.inj H
            go_wp2
            go_ret
            exact ⟨by first | rfl | (simp [errW_none, errW_some] <;> rfl) | (simp [*, errW_none, errW_some] <;> rfl) | (simp [errW_none, errW_some]; exact ⟨rfl, rfl⟩), by repeat (first | (with_reducible first | exact HB.out | apply below_alloc | apply pw_below_drewN | apply below_drew1) | exact HB.out)⟩
        · replace c12 := Bool.eq_false_iff.mpr c12
          subst c12
          have H1 : ((impl_MakeWithout.f t448 t449).bind fun bt454 => ((impl_MakeEither.f t450 bt454.1).bind fun bt456 => ((impl_SetTidy.f kj5 t448).bind fun bt458 => (if bt454.2 = true then (if bt456.2 = true then (if bt458.2 = true then (some (bt456.1.toList == bt458.1.toList)) else (some false)) else (some true)) else (some true))))) = some r := by rw [if_neg (show ¬ (false = true) by decide)] at H; exact H
          clear H
          have H := H1
          clear H1
          replace H := Option.bind_eq_some_iff.mp H
          obtain ⟨⟨t454, t455⟩, A140, H⟩ := H
          replace H : ((impl_MakeEither.f t450 t454).bind fun bt456 => ((impl_SetTidy.f kj5 t448).bind fun bt458 => (if t455 = true then (if bt456.2 = true then (if bt458.2 = true then (some (bt456.1.toList == bt458.1.toList)) else (some false)) else (some true)) else (some true)))) = some r := H
          have A14 := Aside0.mk A140
          clear A140
          replace H := Option.bind_eq_some_iff.mp H
          obtain ⟨⟨t456, t457⟩, A150, H⟩ := H
          replace H : ((impl_SetTidy.f kj5 t448).bind fun bt458 => (if t455 = true then (if t457 = true then (if bt458.2 = true then (some (t456.toList == bt458.1.toList)) else (some false)) else (some true)) else (some true))) = some r := H
          have A15 := Aside0.mk A150
          clear A150
          replace H := Option.bind_eq_some_iff.mp H
          obtain ⟨⟨t458, t459⟩, A160, H⟩ := H
          replace H : (if t455 = true then (if t457 = true then (if t459 = true then (some (t456.toList == t458.toList)) else (some false)) else (some true)) else (some true)) = some r := H
          have A16 := Aside0.mk A160
          clear A160
          by_cases c17 : t455 = true
          · subst c17
            have H1 : (if t457 = true then (if t459 = true then (some (t456.toList == t458.toList)) else (some false)) else (some true)) = some r := by rw [if_pos rfl] at H; exact H
            clear H
            have H := H1
            clear H1
            by_cases c18 : t457 = true
            · subst c18
              have H1 : (if t459 = true then (some (t456.toList == t458.toList)) else (some false)) = some r := by rw [if_pos rfl] at H; exact H
              clear H
              have H := H1
              clear H1
              by_cases c19 : t459 = true
              · subst c19
                have H1 : (some (t456.toList == t458.toList)) = some r := by rw [if_pos rfl] at H; exact H
                clear H
                have H := H1
                clear H1
                obtain rfl := Option.some.inj H
                go_wp2_with (first | ((with_reducible refine gate_callee (f := 18) rfl ?_); refine goesL_ (some 58) rfl rfl Try.func18 (by kernel_rfl) rfl #[.string t448, .string t449] rfl (by (try simp only [List.map_toArray, List.map_cons, List.map_nil]); first | done | rfl | (simp only [List.length_drop, List.length_take]; rfl)) ?_; (with_reducible refine (impl_MakeWithout.calls t448 t449 t454 true _ A14.out).mono ?_); rintro e w20 ⟨rfl, hb⟩; refine ⟨_, rfl, ?_⟩; have n0_ := Aside0.mk (below_step (by repeat (first | (with_reducible first | exact HB.out | apply below_alloc | apply pw_below_drewN | apply below_drew1) | exact HB.out)) hb); clear HB; have HB := n0_; clear n0_; (try clear hb); (try clear hb2); (try clear hk); (try clear hi)) | ((with_reducible refine gate_callee (f := 15) rfl ?_); refine goesL_ (some 64) rfl rfl Try.func15 (by kernel_rfl) rfl #[.string t450, .string t454] rfl (by (try simp only [List.map_toArray, List.map_cons, List.map_nil]); first | done | rfl | (simp only [List.length_drop, List.length_take]; rfl)) ?_; (with_reducible refine (impl_MakeEither.calls t450 t454 t456 true _ A15.out).mono ?_); rintro e w21 ⟨rfl, hb⟩; refine ⟨_, rfl, ?_⟩; have n0_ := Aside0.mk (below_step (by repeat (first | (with_reducible first | exact HB.out | apply below_alloc | apply pw_below_drewN | apply below_drew1) | exact HB.out)) hb); clear HB; have HB := n0_; clear n0_; (try clear hb); (try clear hb2); (try clear hk); (try clear hi)) | ((with_reducible refine gate_callee (f := 13) rfl ?_); refine goesL_ (some 69) rfl rfl Try.func13 (by kernel_rfl) rfl #[.string t448] rfl (by (try simp only [List.map_toArray, List.map_cons, List.map_nil]); first | done | rfl | (simp only [List.length_drop, List.length_take]; rfl)) ?_; (with_reducible refine (impl_SetTidy.calls kj5 t448 t458 true _ A16.out).mono ?_); rintro e w22 ⟨rfl, hb⟩; refine ⟨_, rfl, ?_⟩; have n0_ := Aside0.mk (below_step (by repeat (first | (with_reducible first | exact HB.out | apply below_alloc | apply pw_below_drewN | apply below_drew1) | exact HB.out)) hb); clear HB; have HB := n0_; clear n0_; (try clear hb); (try clear hb2); (try clear hk); (try clear hi)))
                go_ret
                exact ⟨by first | rfl | (simp [errW_none, errW_some] <;> rfl) | (simp [*, errW_none, errW_some] <;> rfl) | (simp [errW_none, errW_some]; exact ⟨rfl, rfl⟩), by repeat (first | (with_reducible first | exact HB.out | apply below_alloc | apply pw_below_drewN | apply below_drew1) | exact HB.out)⟩
              · replace c19 := Bool.eq_false_iff.mpr c19
                subst c19
                have H1 : (some false) = some r := by rw [if_neg (show ¬ (false = true) by decide)] at H; exact H
                clear H
                have H := H1
                clear H1
                obtain rfl := Option.some.inj H
                go_wp2_with (first | ((with_reducible refine gate_callee (f := 18) rfl ?_); refine goesL_ (some 58) rfl rfl Try.func18 (by kernel_rfl) rfl #[.string t448, .string t449] rfl (by (try simp only [List.map_toArray, List.map_cons, List.map_nil]); first | done | rfl | (simp only [List.length_drop, List.length_take]; rfl)) ?_; (with_reducible refine (impl_MakeWithout.calls t448 t449 t454 true _ A14.out).mono ?_); rintro e w23 ⟨rfl, hb⟩; refine ⟨_, rfl, ?_⟩; have n0_ := Aside0.mk (below_step (by repeat (first | (with_reducible first | exact HB.out | apply below_alloc | apply pw_below_drewN | apply below_drew1) | exact HB.out)) hb); clear HB; have HB := n0_; clear n0_; (try clear hb); (try clear hb2); (try clear hk); (try clear hi)) | ((with_reducible refine gate_callee (f := 15) rfl ?_); refine goesL_ (some 64) rfl rfl Try.func15 (by kernel_rfl) rfl #[.string t450, .string t454] rfl (by (try simp only [List.map_toArray, List.map_cons, List.map_nil]); first | done | rfl | (simp only [List.length_drop, List.length_take]; rfl)) ?_; (with_reducible refine (impl_MakeEither.calls t450 t454 t456 true _ A15.out).mono ?_); rintro e w24 ⟨rfl, hb⟩; refine ⟨_, rfl, ?_⟩; have n0_ := Aside0.mk (below_step (by repeat (first | (with_reducible first | exact HB.out | apply below_alloc | apply pw_below_drewN | apply below_drew1) | exact HB.out)) hb); clear HB; have HB := n0_; clear n0_; (try clear hb); (try clear hb2); (try clear hk); (try clear hi)) | ((with_reducible refine gate_callee (f := 13) rfl ?_); refine goesL_ (some 69) rfl rfl Try.func13 (by kernel_rfl) rfl #[.string t448] rfl (by (try simp only [List.map_toArray, List.map_cons, List.map_nil]); first | done | rfl | (simp only [List.length_drop, List.length_take]; rfl)) ?_; (with_reducible refine (impl_SetTidy.calls kj5 t448 t458 false _ A16.out).mono ?_); rintro e w25 ⟨rfl, hb⟩; refine ⟨_, rfl, ?_⟩; have n0_ := Aside0.mk (below_step (by repeat (first | (with_reducible first | exact HB.out | apply below_alloc | apply pw_below_drewN | apply below_drew1) | exact HB.out)) hb); clear HB; have HB := n0_; clear n0_; (try clear hb); (try clear hb2); (try clear hk); (try clear hi)))
                go_ret
                exact ⟨by first | rfl | (simp [errW_none, errW_some] <;> rfl) | (simp [*, errW_none, errW_some] <;> rfl) | (simp [errW_none, errW_some]; exact ⟨rfl, rfl⟩), by repeat (first | (with_reducible first | exact HB.out | apply below_alloc | apply pw_below_drewN | apply below_drew1) | exact HB.out)⟩
            · replace c18 := Bool.eq_false_iff.mpr c18
              subst c18
              have H1 : (some true) = some r := by rw [if_neg (show ¬ (false = true) by decide)] at H; exact H
              clear H
              have H := H1
              clear H1
              obtain rfl := Option.some.inj H
              go_wp2_with (first | ((with_reducible refine gate_callee (f := 18) rfl ?_); refine goesL_ (some 58) rfl rfl Try.func18 (by kernel_rfl) rfl #[.string t448, .string t449] rfl (by (try simp only [List.map_toArray, List.map_cons, List.map_nil]); first | done | rfl | (simp only [List.length_drop, List.length_take]; rfl)) ?_; (with_reducible refine (impl_MakeWithout.calls t448 t449 t454 true _ A14.out).mono ?_); rintro e w26 ⟨rfl, hb⟩; refine ⟨_, rfl, ?_⟩; have n0_ := Aside0.mk (below_step (by repeat (first | (with_reducible first | exact HB.out | apply below_alloc | apply pw_below_drewN | apply below_drew1) | exact HB.out)) hb); clear HB; have HB := n0_; clear n0_; (try clear hb); (try clear hb2); (try clear hk); (try clear hi)) | ((with_reducible refine gate_callee (f := 15) rfl ?_); refine goesL_ (some 64) rfl rfl Try.func15 (by kernel_rfl) rfl #[.string t450, .string t454] rfl (by (try simp only [List.map_toArray, List.map_cons, List.map_nil]); first | done | rfl | (simp only [List.length_drop, List.length_take]; rfl)) ?_; (with_reducible refine (impl_MakeEither.calls t450 t454 t456 false _ A15.out).mono ?_); rintro e w27 ⟨rfl, hb⟩; refine ⟨_, rfl, ?_⟩; have n0_ := Aside0.mk (below_step (by repeat (first | (with_reducible first | exact HB.out | apply below_alloc | apply pw_below_drewN | apply below_drew1) | exact HB.out)) hb); clear HB; have HB := n0_; clear n0_; (try clear hb); (try clear hb2); (try clear hk); (try clear hi)) | ((with_reducible refine gate_callee (f := 13) rfl ?_); refine goesL_ (some 69) rfl rfl Try.func13 (by kernel_rfl) rfl #[.string t448] rfl (by (try simp only [List.map_toArray, List.map_cons, List.map_nil]); first | done | rfl | (simp only [List.length_drop, List.length_take]; rfl)) ?_; (with_reducible refine (impl_SetTidy.calls kj5 t448 t458 t459 _ A16.out).mono ?_); rintro e w28 ⟨rfl, hb⟩; refine ⟨_, rfl, ?_⟩; have n0_ := Aside0.mk (below_step (by repeat (first | (with_reducible first | exact HB.out | apply below_alloc | apply pw_below_drewN | apply below_drew1) | exact HB.out)) hb); clear HB; have HB := n0_; clear n0_; (try clear hb); (try clear hb2); (try clear hk); (try clear hi)))
              go_ret
              exact ⟨by first | rfl | (simp [errW_none, errW_some] <;> rfl) | (simp [*, errW_none, errW_some] <;> rfl) | (simp [errW_none, errW_some]; exact ⟨rfl, rfl⟩), by repeat (first | (with_reducible first | exact HB.out | apply below_alloc | apply pw_below_drewN | apply below_drew1) | exact HB.out)⟩
          · replace c17 := Bool.eq_false_iff.mpr c17
            subst c17
            have H1 : (some true) = some r := by rw [if_neg (show ¬ (false = true) by decide)] at H; exact H
            clear H
            have H := H1
            clear H1
            obtain rfl := Option.some.inj H
            go_wp2_with (first | ((with_reducible refine gate_callee (f := 18) rfl ?_); refine goesL_ (some 58) rfl rfl Try.func18 (by kernel_rfl) rfl #[.string t448, .string t449] rfl (by (try simp only [List.map_toArray, List.map_cons, List.map_nil]); first | done | rfl | (simp only [List.length_drop, List.length_take]; rfl)) ?_; (with_reducible refine (impl_MakeWithout.calls t448 t449 t454 false _ A14.out).mono ?_); rintro e w29 ⟨rfl, hb⟩; refine ⟨_, rfl, ?_⟩; have n0_ := Aside0.mk (below_step (by repeat (first | (with_reducible first | exact HB.out | apply below_alloc | apply pw_below_drewN | apply below_drew1) | exact HB.out)) hb); clear HB; have HB := n0_; clear n0_; (try clear hb); (try clear hb2); (try clear hk); (try clear hi)) | ((with_reducible refine gate_callee (f := 15) rfl ?_); refine goesL_ (some 64) rfl rfl Try.func15 (by kernel_rfl) rfl #[.string t450, .string t454] rfl (by (try simp only [List.map_toArray, List.map_cons, List.map_nil]); first | done | rfl | (simp only [List.length_drop, List.length_take]; rfl)) ?_; (with_reducible refine (impl_MakeEither.calls t450 t454 t456 t457 _ A15.out).mono ?_); rintro e w30 ⟨rfl, hb⟩; refine ⟨_, rfl, ?_⟩; have n0_ := Aside0.mk (below_step (by repeat (first | (with_reducible first | exact HB.out | apply below_alloc | apply pw_below_drewN | apply below_drew1) | exact HB.out)) hb); clear HB; have HB := n0_; clear n0_; (try clear hb); (try clear hb2); (try clear hk); (try clear hi)) | ((with_reducible refine gate_callee (f := 13) rfl ?_); refine goesL_ (some 69) rfl rfl Try.func13 (by kernel_rfl) rfl #[.string t448] rfl (by (try simp only [List.map_toArray, List.map_cons, List.map_nil]); first | done | rfl | (simp only [List.length_drop, List.length_take]; rfl)) ?_; (with_reducible refine (impl_SetTidy.calls kj5 t448 t458 t459 _ A16.out).mono ?_); rintro e w31 ⟨rfl, hb⟩; refine ⟨_, rfl, ?_⟩; have n0_ := Aside0.mk (below_step (by repeat (first | (with_reducible first | exact HB.out | apply below_alloc | apply pw_below_drewN | apply below_drew1) | exact HB.out)) hb); clear HB; have HB := n0_; clear n0_; (try clear hb); (try clear hb2); (try clear hk); (try clear hi)))
            go_ret
            exact ⟨by first | rfl | (simp [errW_none, errW_some] <;> rfl) | (simp [*, errW_none, errW_some] <;> rfl) | (simp [errW_none, errW_some]; exact ⟨rfl, rfl⟩), by repeat (first | (with_reducible first | exact HB.out | apply below_alloc | apply pw_below_drewN | apply below_drew1) | exact HB.out)⟩

/-- THE ONE PURE STATEMENT of laws_FnMakeSplit: yours. -/
noncomputable def laws_FnMakeSplit.Pure : Prop := ∀ (l0 : List Int), l0.length ≤ maxLen → l0.length * 1 ≤ 140737488351232 → (∀ x ∈ l0, (Lit.int .u8 x).wf = true) → ∃ k, laws_FnMakeSplit.f k l0 = some true
theorem laws_FnMakeSplit.walk (P : laws_FnMakeSplit.Pure) (a0 : Option Addr) (len0 cap0 : Nat) (z0 : List Int) (w : World) (w0 : (a0 = none ∧ len0 = 0 ∧ cap0 = 0 ∧ z0 = []) ∨ ∃ x, a0 = some x ∧ len0 ≤ cap0 ∧ cap0 ≤ maxLen ∧ z0.length = cap0 ∧ (∀ i, i < z0.length → w.cell? (x.add i) = some (.int .u8 (z0.getD i 0))) ∧ ∀ n ∈ z0, (Lit.int .u8 n).wf = true) (y0 : len0 * 1 ≤ 140737488351232) :
    Calls Try.prog 7 #[.slice a0 len0 cap0] w fun e w' => e = .returned (.bool true) ∧ Below w.heap.size w w' := by
  obtain ⟨l0, rfl, hr0, hm0, hw0, hc0⟩ := ReadsInt.ofRowC w0
  obtain ⟨k, h⟩ := P l0 hm0 y0 hw0
  refine (laws_FnMakeSplit.calls k _ _ l0 true w (Kd.C_of_reads (d := (0 : Int)) (h1 := fun _ => rfl) hr0) hc0 h).mono ?_
  rintro e w' ⟨rfl, hd⟩
  exact ⟨rfl, hd⟩

end Go.Proofs.Ytfoolgjofinmlaa.P

-- For every code the law FnMakeSplit holds.
namespace Go.Proofs.Ytfoolgjofinmlaa.P
open Go.RowKit Go.Proofs.YtfoolgjofinmlaaW.PrintWords Go.Proofs.YtfoolgjofinmlaaW.PrintLast Go.Proofs.YtfoolgjofinmlaaW.PrintMore
set_option linter.unusedVariables false
set_option linter.unusedSimpArgs false

theorem drawSplit_f (l : List Int) (h : ∀ x ∈ l, (Lit.int .u8 x).wf = true) : ∃ (s t : ByteArray), Few s ∧ Few t ∧ Ev (fun k => spec_DrawMakeBoth.f k l) (s, t) := by
  obtain ⟨s, q, hf, hq, K0, h0⟩ := set91_f (code_of h) 0 (by omega)
  dsimp only at h0
  have g0 : ∀ k, K0 ≤ k → spec_l91Set.f k (l.take 2000) 0 = some (s, (q : Int)) := h0
  obtain ⟨t, q2, hf2, hq2, K1, h1⟩ := set91_f (code_of h) q (by omega)
  dsimp only at h1
  have g1 : ∀ k, K1 ≤ k → spec_l91Set.f k (l.take 2000) (q : Int) = some (t, (q2 : Int)) := h1
  refine ⟨s, t, hf, hf2, K0 + K1, fun k hk => ?_⟩
  dsimp only
  unfold spec_DrawMakeBoth.f
  rw [open_f, Option.bind_some, g0 k (by omega), Option.bind_some, g1 k (by omega), Option.bind_some]
theorem split_eq {s t : List UInt8} (h1 : (two (fun x y => x && y) s t).2 = true) (h2 : (two (fun x y => x && !y) s t).2 = true) (h3 : (two (fun x y => x || y) (chrs (two (fun x y => x && y) s t).1) (chrs (two (fun x y => x && !y) s t).1)).2 = true) :
    (tdy s).2 = true ∧ (two (fun x y => x || y) (chrs (two (fun x y => x && y) s t).1) (chrs (two (fun x y => x && !y) s t).1)).1 = (tdy s).1 := by
  have hc : (parse s).isSome = true := by
    unfold two at h1
    exact (Bool.and_eq_true_iff.1 (ite_ok h1).1).1
  obtain ⟨⟨a, b⟩, hp⟩ := Option.isSome_iff_exists.1 hc
  obtain ⟨_, _, a1, a2, a3, a4⟩ := two_ok h1
  obtain ⟨_, _, b1, b2, b3, b4⟩ := two_ok h2
  obtain ⟨_, _, c1, c2, c3, c4⟩ := two_ok h3
  have hb := parse_some hp
  obtain ⟨p1, p2⟩ := parse_per hp
  have hs1 := cn_spec p1 p2
  rw [c3, a3, b3, txt_setf a1 a2 a4, txt_setf b1 b2 b4, tdy_some hp]
  refine ⟨rfl, ?_⟩
  have e : (fun n => (fun x y : Bool => x || y) ((fun n => (fun x y : Bool => x && y) (setf s n) (setf t n)) n) ((fun n => (fun x y : Bool => x && !y) (setf s n) (setf t n)) n)) = hasB a b := by
    funext n
    rw [← setf_some hp]
    show ((setf s n && setf t n) || (setf s n && !setf t n)) = setf s n
    cases setf s n <;> cases setf t n <;> rfl
  rw [e, txt_ok (by omega) (by omega)]
theorem split_size (op : Bool → Bool → Bool) (s t : List UInt8) : (two op s t).1.size ≤ 122 := by
  unfold two
  split
  · exact txt_size _
  · show (0 : Nat) ≤ 122; omega
theorem lawMakeSplit_ev (l : List Int) (h : ∀ x ∈ l, (Lit.int .u8 x).wf = true) : Ev (fun k => laws_FnMakeSplit.f k l) true := by
  by_cases hl : (l.length : Int) > 1048576
  · exact ⟨0, fun k _ => by dsimp only; unfold laws_FnMakeSplit.f; rw [if_pos hl]⟩
  · obtain ⟨s, t, hf, hf2, K1, h1⟩ := drawSplit_f l h
    dsimp only at h1
    have hz := hf.size
    have hz2 := hf2.size
    have hs : s.size ≤ 70368744177664 := by omega
    have ht : t.size ≤ 70368744177664 := by omega
    obtain ⟨K2, h2⟩ := smakeBoth_f s t hs ht
    dsimp only at h2
    have h3 := makeBoth_f s t hs ht
    obtain ⟨K3, h5⟩ := isetTidy_f s hs
    dsimp only at h5
    have main : ∀ k, K3 ≤ k → laws_FnMakeSplit.j0 (k + 1) s t (two (fun x y => x && y) (chrs s) (chrs t)).1 (two (fun x y => x && y) (chrs s) (chrs t)).2 (two (fun x y => x && y) (chrs s) (chrs t)).1 (two (fun x y => x && y) (chrs s) (chrs t)).2 (!(two (fun x y => x && y) (chrs s) (chrs t)).2) = some true := by
      intro k hk
      simp only [laws_FnMakeSplit.j0]
      cases g1 : (two (fun x y => x && y) (chrs s) (chrs t)).2 with
      | false => rfl
      | true =>
        have z1 := split_size (fun x y => x && y) (chrs s) (chrs t)
        have z2 := split_size (fun x y => x && !y) (chrs s) (chrs t)
        rw [if_neg (by decide), makeWithout_f s t hs ht, Option.bind_some, makeEither_f _ _ (by omega) (by omega), Option.bind_some, h5 k hk, Option.bind_some]
        cases g2 : (two (fun x y => x && !y) (chrs s) (chrs t)).2 with
        | false => rfl
        | true =>
          cases g3 : (two (fun x y => x || y) (chrs (two (fun x y => x && y) (chrs s) (chrs t)).1) (chrs (two (fun x y => x && !y) (chrs s) (chrs t)).1)).2 with
          | false => rfl
          | true =>
            obtain ⟨e1, e2⟩ := split_eq g1 g2 g3
            rw [if_pos (by trivial), if_pos (by trivial), if_pos e1, e2, BEq.rfl]
    refine ⟨K1 + K2 + K3 + 1, fun k hk => ?_⟩
    obtain ⟨k, rfl, hk2⟩ := down1 hk
    dsimp only
    unfold laws_FnMakeSplit.f
    rw [if_neg hl, h1 (k + 1) (by omega), Option.bind_some]
    try dsimp only
    rw [h3, Option.bind_some, h2 (k + 1) (by omega), Option.bind_some, if_pos (by trivial), if_neg (bne_no _)]
    exact main k (by omega)
theorem lawMakeSplit_pure : laws_FnMakeSplit.Pure := fun l _ _ h => (lawMakeSplit_ev l h).rounds
end Go.Proofs.Ytfoolgjofinmlaa.P

-- For every code the law FnMakeSplit holds.
namespace Go.Proofs.Ytfoolgjofinmlaa.Pure
theorem FnMakeSplit : Go.Proofs.Ytfoolgjofinmlaa.P.laws_FnMakeSplit.Pure := Go.Proofs.Ytfoolgjofinmlaa.P.lawMakeSplit_pure
end Go.Proofs.Ytfoolgjofinmlaa.Pure
