/- What these laws reach, joined by a program of this session: contracts (written by that program over the kit's print, or by hand) and plain lemmas. -/
import Derived.Test.YtaebonckcbhofaaK1
import Derived.Test.YtaebonckcbhofaaK4
import Derived.Test.YtaebonckcbhofaaK9
namespace Go.Proofs.Ytaebonckcbhofaa.P
open Go.RowKit Go.Proofs.YtaebonckcbhofaaW.PrintWords Go.Proofs.YtaebonckcbhofaaW.PrintLast Go.Proofs.YtaebonckcbhofaaW.PrintMore
attribute [local go_sem] max2_int min2_int max_two min_two max_three min_three max_four min_four   -- for this text's walks alone
set_option linter.unusedVariables false
set_option linter.unusedSimpArgs false

/-! ### laws_FnStarHas: function 7 -/
noncomputable def laws_FnStarHas.f (k : Nat) (l0 : List Int) : Option (Bool) := if (l0.length : Int) > 1048576 then (some true) else ((spec_DrawStarHas.f k l0).bind fun bt575 => ((impl_StarHas.f k bt575.1 bt575.2).bind fun t577 => ((spec_StarHas.f k bt575.1 bt575.2).bind fun t578 => (if ((t577 == t578) = true) then ((impl_StarOf.f bt575.1).bind fun bt579 => (if bt579.2 = true then (if bt575.2 > 2000 then (some true) else (if bt575.2 < 0 then (some true) else ((impl_SetHas.f k bt579.1 bt575.2).bind fun t581 => (some (t581 == t577))))) else (some true))) else (some false)))))
theorem laws_FnStarHas.mono : ∀ a0 k, LeO (laws_FnStarHas.f k a0) (laws_FnStarHas.f (k + 1) a0) := by
  intro a0 k
  unfold laws_FnStarHas.f
  repeat' first
      | (with_reducible exact impl_SetHas.mono _ _ _)
      | (with_reducible exact impl_StarHas.mono _ _ _)
      | (with_reducible exact spec_DrawStarHas.mono _ _)
      | (with_reducible exact spec_StarHas.mono _ _ _)
      | (with_reducible exact LeO.refl _)
      | (with_reducible exact LeO.none _)
      | (with_reducible refine LeO.ite ?_ ?_)
      | (with_reducible refine LeO.bind ?_ (fun _ => ?_))
      | exact impl_SetHas.mono _ _ _
      | exact impl_StarHas.mono _ _ _
      | exact spec_DrawStarHas.mono _ _
      | exact spec_StarHas.mono _ _ _
      | exact LeO.none _
      | refine LeO.ite ?_ ?_
      | refine LeO.bind ?_ (fun _ => ?_)
set_option maxHeartbeats 8000000 in
set_option maxRecDepth 100000 in
theorem laws_FnStarHas.calls (k : Nat) (A0 : Option Addr) (c0 : Nat) (l0 : List Int) (r : Bool) (w : World) (hr0 : Kd.C (Kd.int .u8) w A0 l0.length l0) (hc0 : l0.length ≤ c0) (h : laws_FnStarHas.f k l0 = some r) :
    Calls Try.prog 7 #[.slice A0 l0.length c0] w fun e w' => e = .returned (.bool r) ∧ Below w.heap.size w w' := by
  have HR0 := Aside0.mk hr0
  have HC0 := Aside0.mk hc0
  clear hr0 hc0
  have HB := Aside0.mk (Below.refl w.heap.size w)
  have H : (if (l0.length : Int) > 1048576 then (some true) else ((spec_DrawStarHas.f k l0).bind fun bt575 => ((impl_StarHas.f k bt575.1 bt575.2).bind fun t577 => ((spec_StarHas.f k bt575.1 bt575.2).bind fun t578 => (if ((t577 == t578) = true) then ((impl_StarOf.f bt575.1).bind fun bt579 => (if bt579.2 = true then (if bt575.2 > 2000 then (some true) else (if bt575.2 < 0 then (some true) else ((impl_SetHas.f k bt579.1 bt575.2).bind fun t581 => (some (t581 == t577))))) else (some true))) else (some false)))))) = some r := h
  clear h
  by_cases c2 : (l0.length : Int) > 1048576
  · rw [if_pos c2] at H
    have c2b0 : decide (1048576 < (l0.length : Int)) = true := decide_eq_true c2
    have c2b1 : decide (1048576 < l0.length) = true := decide_eq_true (by omega)
    clear c2
    obtain rfl := Option.some.inj H
    go_enter Try.func7, Try.ntmps7
    go_wp2
    go_ret
    exact ⟨by first | rfl | (simp [errW_none, errW_some] <;> rfl) | (simp [*, errW_none, errW_some] <;> rfl) | (simp [errW_none, errW_some]; exact ⟨rfl, rfl⟩), by repeat (first | (with_reducible first | exact HB.out | apply below_alloc | apply pw_below_drewN | apply below_drew1) | exact HB.out)⟩
  · rw [if_neg c2] at H
    have c2b0 : decide (1048576 < (l0.length : Int)) = false := decide_eq_false c2
    have c2b1 : decide (1048576 < l0.length) = false := decide_eq_false (by omega)
    clear c2
    replace H := Option.bind_eq_some_iff.mp H
    obtain ⟨⟨t575, t576⟩, A30, H⟩ := H
    replace H : ((impl_StarHas.f k t575 t576).bind fun t577 => ((spec_StarHas.f k t575 t576).bind fun t578 => (if ((t577 == t578) = true) then ((impl_StarOf.f t575).bind fun bt579 => (if bt579.2 = true then (if t576 > 2000 then (some true) else (if t576 < 0 then (some true) else ((impl_SetHas.f k bt579.1 t576).bind fun t581 => (some (t581 == t577))))) else (some true))) else (some false)))) = some r := H
    have A3 := Aside0.mk A30
    clear A30
    replace H := Option.bind_eq_some_iff.mp H
    obtain ⟨t577, A40, H⟩ := H
    replace H : ((spec_StarHas.f k t575 t576).bind fun t578 => (if ((t577 == t578) = true) then ((impl_StarOf.f t575).bind fun bt579 => (if bt579.2 = true then (if t576 > 2000 then (some true) else (if t576 < 0 then (some true) else ((impl_SetHas.f k bt579.1 t576).bind fun t581 => (some (t581 == t577))))) else (some true))) else (some false))) = some r := H
    have A4 := Aside0.mk A40
    clear A40
    replace H := Option.bind_eq_some_iff.mp H
    obtain ⟨t578, A50, H⟩ := H
    replace H : (if ((t577 == t578) = true) then ((impl_StarOf.f t575).bind fun bt579 => (if bt579.2 = true then (if t576 > 2000 then (some true) else (if t576 < 0 then (some true) else ((impl_SetHas.f k bt579.1 t576).bind fun t581 => (some (t581 == t577))))) else (some true))) else (some false)) = some r := H
    have A5 := Aside0.mk A50
    clear A50
    by_cases c6 : ((t577 == t578) = true)
    · rw [if_pos c6] at H
      have c6b0 : (t577 == t578) = true := c6
      (try (have c6b1 : decide (t577 = t578) = true := by simpa using c6))
      (try (have c6b2 : (t577 == t578) = true := by simpa using c6))
      clear c6
      replace H := Option.bind_eq_some_iff.mp H
      obtain ⟨⟨t579, t580⟩, A70, H⟩ := H
      replace H : (if t580 = true then (if t576 > 2000 then (some true) else (if t576 < 0 then (some true) else ((impl_SetHas.f k t579 t576).bind fun t581 => (some (t581 == t577))))) else (some true)) = some r := H
      have A7 := Aside0.mk A70
      clear A70
      by_cases c8 : t580 = true
      · subst c8
        have H1 : (if t576 > 2000 then (some true) else (if t576 < 0 then (some true) else ((impl_SetHas.f k t579 t576).bind fun t581 => (some (t581 == t577))))) = some r := by rw [if_pos rfl] at H; exact H
        clear H
        have H := H1
        clear H1
        by_cases c9 : t576 > 2000
        · rw [if_pos c9] at H
          have c9b0 : decide (2000 < t576) = true := decide_eq_true c9
          clear c9
          obtain rfl := Option.some.inj H
          go_enter Try.func7, Try.ntmps7
          go_wp2_with (first | ((with_reducible refine gate_callee (f := 21) rfl ?_); refine goesL_ (some 15) rfl rfl Try.func21 (by kernel_rfl) rfl #[.slice A0 l0.length c0] rfl (by (try simp only [List.map_toArray, List.map_cons, List.map_nil]); first | done | rfl | (simp only [List.length_drop, List.length_take]; rfl)) ?_; (with_reducible refine (spec_DrawStarHas.calls k _ _ l0 t575 t576 _ ?side1 ?side2 A3.out).mono ?_); (case side1 => repeat (first | exact HR0.out | (with_reducible refine Kd.C_alloc ?_ _) | (with_reducible refine Kd.C_drewN ?_ _) | (with_reducible refine Kd.C_drew ?_))); (case side2 => exact HC0.out); rintro e w10 ⟨rfl, hb⟩; refine ⟨_, rfl, ?_⟩; have n0_ := Aside0.mk (below_step (by repeat (first | (with_reducible first | exact HB.out | apply below_alloc | apply pw_below_drewN | apply below_drew1) | exact HB.out)) hb); clear HB; have HB := n0_; clear n0_; (try clear hb); (try clear hb2); (try clear hk); (try clear hi)) | ((with_reducible refine gate_callee (f := 22) rfl ?_); refine goesL_ (some 20) rfl rfl Try.func22 (by kernel_rfl) rfl #[.string t575, .int .i64 t576] rfl (by (try simp only [List.map_toArray, List.map_cons, List.map_nil]); first | done | rfl | (simp only [List.length_drop, List.length_take]; rfl)) ?_; (with_reducible refine (impl_StarHas.calls k t575 t576 t577 _ A4.out).mono ?_); rintro e w11 ⟨rfl, hb⟩; refine ⟨_, rfl, ?_⟩; have n0_ := Aside0.mk (below_step (by repeat (first | (with_reducible first | exact HB.out | apply below_alloc | apply pw_below_drewN | apply below_drew1) | exact HB.out)) hb); clear HB; have HB := n0_; clear n0_; (try clear hb); (try clear hb2); (try clear hk); (try clear hi)) | ((with_reducible refine gate_callee (f := 23) rfl ?_); refine goesL_ (some 23) rfl rfl Try.func23 (by kernel_rfl) rfl #[.string t575, .int .i64 t576] rfl (by (try simp only [List.map_toArray, List.map_cons, List.map_nil]); first | done | rfl | (simp only [List.length_drop, List.length_take]; rfl)) ?_; (with_reducible refine (spec_StarHas.calls k t575 t576 t578 _ A5.out).mono ?_); rintro e w12 ⟨rfl, hb⟩; refine ⟨_, rfl, ?_⟩; have n0_ := Aside0.mk (below_step (by repeat (first | (with_reducible first | exact HB.out | apply below_alloc | apply pw_below_drewN | apply below_drew1) | exact HB.out)) hb); clear HB; have HB := n0_; clear n0_; (try clear hb); (try clear hb2); (try clear hk); (try clear hi)) | ((with_reducible refine gate_callee (f := 24) rfl ?_); refine goesL_ (some 31) rfl rfl Try.func24 (by kernel_rfl) rfl #[.string t575] rfl (by (try simp only [List.map_toArray, List.map_cons, List.map_nil]); first | done | rfl | (simp only [List.length_drop, List.length_take]; rfl)) ?_; (with_reducible refine (impl_StarOf.calls t575 t579 true _ A7.out).mono ?_); rintro e w13 ⟨rfl, hb⟩; refine ⟨_, rfl, ?_⟩; have n0_ := Aside0.mk (below_step (by repeat (first | (with_reducible first | exact HB.out | apply below_alloc | apply pw_below_drewN | apply below_drew1) | exact HB.out)) hb); clear HB; have HB := n0_; clear n0_; (try clear hb); (try clear hb2); (try clear hk); (try clear hi)))
          go_ret
          exact ⟨by first | rfl | (simp [errW_none, errW_some] <;> rfl) | (simp [*, errW_none, errW_some] <;> rfl) | (simp [errW_none, errW_some]; exact ⟨rfl, rfl⟩), by repeat (first | (with_reducible first | exact HB.out | apply below_alloc | apply pw_below_drewN | apply below_drew1) | exact HB.out)⟩
        · rw [if_neg c9] at H
          have c9b0 : decide (2000 < t576) = false := decide_eq_false c9
          clear c9
          by_cases c14 : t576 < 0
          · rw [if_pos c14] at H
            have c14b0 : decide (t576 < 0) = true := decide_eq_true c14
            clear c14
            obtain rfl := Option.some.inj H
            go_enter Try.func7, Try.ntmps7
            go_wp2_with (first | ((with_reducible refine gate_callee (f := 21) rfl ?_); refine goesL_ (some 15) rfl rfl Try.func21 (by kernel_rfl) rfl #[.slice A0 l0.length c0] rfl (by (try simp only [List.map_toArray, List.map_cons, List.map_nil]); first | done | rfl | (simp only [List.length_drop, List.length_take]; rfl)) ?_; (with_reducible refine (spec_DrawStarHas.calls k _ _ l0 t575 t576 _ ?side1 ?side2 A3.out).mono ?_); (case side1 => repeat (first | exact HR0.out | (with_reducible refine Kd.C_alloc ?_ _) | (with_reducible refine Kd.C_drewN ?_ _) | (with_reducible refine Kd.C_drew ?_))); (case side2 => exact HC0.out); rintro e w15 ⟨rfl, hb⟩; refine ⟨_, rfl, ?_⟩; have n0_ := Aside0.mk (below_step (by repeat (first | (with_reducible first | exact HB.out | apply below_alloc | apply pw_below_drewN | apply below_drew1) | exact HB.out)) hb); clear HB; have HB := n0_; clear n0_; (try clear hb); (try clear hb2); (try clear hk); (try clear hi)) | ((with_reducible refine gate_callee (f := 22) rfl ?_); refine goesL_ (some 20) rfl rfl Try.func22 (by kernel_rfl) rfl #[.string t575, .int .i64 t576] rfl (by (try simp only [List.map_toArray, List.map_cons, List.map_nil]); first | done | rfl | (simp only [List.length_drop, List.length_take]; rfl)) ?_; (with_reducible refine (impl_StarHas.calls k t575 t576 t577 _ A4.out).mono ?_); rintro e w16 ⟨rfl, hb⟩; refine ⟨_, rfl, ?_⟩; have n0_ := Aside0.mk (below_step (by repeat (first | (with_reducible first | exact HB.out | apply below_alloc | apply pw_below_drewN | apply below_drew1) | exact HB.out)) hb); clear HB; have HB := n0_; clear n0_; (try clear hb); (try clear hb2); (try clear hk); (try clear hi)) | ((with_reducible refine gate_callee (f := 23) rfl ?_); refine goesL_ (some 23) rfl rfl Try.func23 (by kernel_rfl) rfl #[.string t575, .int .i64 t576] rfl (by (try simp only [List.map_toArray, List.map_cons, List.map_nil]); first | done | rfl | (simp only [List.length_drop, List.length_take]; rfl)) ?_; (with_reducible refine (spec_StarHas.calls k t575 t576 t578 _ A5.out).mono ?_); rintro e w17 ⟨rfl, hb⟩; refine ⟨_, rfl, ?_⟩; have n0_ := Aside0.mk (below_step (by repeat (first | (with_reducible first | exact HB.out | apply below_alloc | apply pw_below_drewN | apply below_drew1) | exact HB.out)) hb); clear HB; have HB := n0_; clear n0_; (try clear hb); (try clear hb2); (try clear hk); (try clear hi)) | ((with_reducible refine gate_callee (f := 24) rfl ?_); refine goesL_ (some 31) rfl rfl Try.func24 (by kernel_rfl) rfl #[.string t575] rfl (by (try simp only [List.map_toArray, List.map_cons, List.map_nil]); first | done | rfl | (simp only [List.length_drop, List.length_take]; rfl)) ?_; (with_reducible refine (impl_StarOf.calls t575 t579 true _ A7.out).mono ?_); rintro e w18 ⟨rfl, hb⟩; refine ⟨_, rfl, ?_⟩; have n0_ := Aside0.mk (below_step (by repeat (first | (with_reducible first | exact HB.out | apply below_alloc | apply pw_below_drewN | apply below_drew1) | exact HB.out)) hb); clear HB; have HB := n0_; clear n0_; (try clear hb); (try clear hb2); (try clear hk); (try clear hi)))
            go_ret
            exact ⟨by first | rfl | (simp [errW_none, errW_some] <;> rfl) | (simp [*, errW_none, errW_some] <;> rfl) | (simp [errW_none, errW_some]; exact ⟨rfl, rfl⟩), by repeat (first | (with_reducible first | exact HB.out | apply below_alloc | apply pw_below_drewN | apply below_drew1) | exact HB.out)⟩
          · rw [if_neg c14] at H
            have c14b0 : decide (t576 < 0) = false := decide_eq_false c14
            clear c14
            replace H := Option.bind_eq_some_iff.mp H
            obtain ⟨t581, A190, H⟩ := H
            replace H : (some (t581 == t577)) = some r := H
            have A19 := Aside0.mk A190
            clear A190
            obtain rfl := Option.some.inj H
            go_enter Try.func7, Try.ntmps7
            go_wp2_with (first | ((with_reducible refine gate_callee (f := 21) rfl ?_); refine goesL_ (some 15) rfl rfl Try.func21 (by kernel_rfl) rfl #[.slice A0 l0.length c0] rfl (by (try simp only [List.map_toArray, List.map_cons, List.map_nil]); first | done | rfl | (simp only [List.length_drop, List.length_take]; rfl)) ?_; (with_reducible refine (spec_DrawStarHas.calls k _ _ l0 t575 t576 _ ?side1 ?side2 A3.out).mono ?_); (case side1 => repeat (first | exact HR0.out | (with_reducible refine Kd.C_alloc ?_ _) | (with_reducible refine Kd.C_drewN ?_ _) | (with_reducible refine Kd.C_drew ?_))); (case side2 => exact HC0.out); rintro e w20 ⟨rfl, hb⟩; refine ⟨_, rfl, ?_⟩; have n0_ := Aside0.mk (below_step (by repeat (first | (with_reducible first | exact HB.out | apply below_alloc | apply pw_below_drewN | apply below_drew1) | exact HB.out)) hb); clear HB; have HB := n0_; clear n0_; (try clear hb); (try clear hb2); (try clear hk); (try clear hi)) | ((with_reducible refine gate_callee (f := 22) rfl ?_); refine goesL_ (some 20) rfl rfl Try.func22 (by kernel_rfl) rfl #[.string t575, .int .i64 t576] rfl (by (try simp only [List.map_toArray, List.map_cons, List.map_nil]); first | done | rfl | (simp only [List.length_drop, List.length_take]; rfl)) ?_; (with_reducible refine (impl_StarHas.calls k t575 t576 t577 _ A4.out).mono ?_); rintro e w21 ⟨rfl, hb⟩; refine ⟨_, rfl, ?_⟩; have n0_ := Aside0.mk (below_step (by repeat (first | (with_reducible first | exact HB.out | apply below_alloc | apply pw_below_drewN | apply below_drew1) | exact HB.out)) hb); clear HB; have HB := n0_; clear n0_; (try clear hb); (try clear hb2); (try clear hk); (try clear hi)) | ((with_reducible refine gate_callee (f := 23) rfl ?_); refine goesL_ (some 23) rfl rfl Try.func23 (by kernel_rfl) rfl #[.string t575, .int .i64 t576] rfl (by (try simp only [List.map_toArray, List.map_cons, List.map_nil]); first | done | rfl | (simp only [List.length_drop, List.length_take]; rfl)) ?_; (with_reducible refine (spec_StarHas.calls k t575 t576 t578 _ A5.out).mono ?_); rintro e w22 ⟨rfl, hb⟩; refine ⟨_, rfl, ?_⟩; have n0_ := Aside0.mk (below_step (by repeat (first | (with_reducible first | exact HB.out | apply below_alloc | apply pw_below_drewN | apply below_drew1) | exact HB.out)) hb); clear HB; have HB := n0_; clear n0_; (try clear hb); (try clear hb2); (try clear hk); (try clear hi)) | ((with_reducible refine gate_callee (f := 24) rfl ?_); refine goesL_ (some 31) rfl rfl Try.func24 (by kernel_rfl) rfl #[.string t575] rfl (by (try simp only [List.map_toArray, List.map_cons, List.map_nil]); first | done | rfl | (simp only [List.length_drop, List.length_take]; rfl)) ?_; (with_reducible refine (impl_StarOf.calls t575 t579 true _ A7.out).mono ?_); rintro e w23 ⟨rfl, hb⟩; refine ⟨_, rfl, ?_⟩; have n0_ := Aside0.mk (below_step (by repeat (first | (with_reducible first | exact HB.out | apply below_alloc | apply pw_below_drewN | apply below_drew1) | exact HB.out)) hb); clear HB; have HB := n0_; clear n0_; (try clear hb); (try clear hb2); (try clear hk); (try clear hi)) | (go_at_call 12; (with_reducible refine (impl_SetHas.calls k t579 t576 t581 _ A19.out).mono ?_); rintro e w24 ⟨rfl, hb⟩; have n0_ := Aside0.mk (below_step (by repeat (first | (with_reducible first | exact HB.out | apply below_alloc | apply pw_below_drewN | apply below_drew1) | exact HB.out)) hb); clear HB; have HB := n0_; clear n0_; (try clear hb); (try clear hb2); (try clear hk); (try clear hi)))
            go_ret
            exact ⟨by first | rfl | (simp [errW_none, errW_some] <;> rfl) | (simp [*, errW_none, errW_some] <;> rfl) | (simp [errW_none, errW_some]; exact ⟨rfl, rfl⟩), by repeat (first | (with_reducible first | exact HB.out | apply below_alloc | apply pw_below_drewN | apply below_drew1) | exact HB.out)⟩
      · replace c8 := Bool.eq_false_iff.mpr c8
        subst c8
        have H1 : (some true) = some r := by rw [if_neg (show ¬ (false = true) by decide)] at H; exact H
        clear H
        have H := H1
        clear H1
        obtain rfl := Option.some.inj H
        go_enter Try.func7, Try.ntmps7
        go_wp2_with (first | ((with_reducible refine gate_callee (f := 21) rfl ?_); refine goesL_ (some 15) rfl rfl Try.func21 (by kernel_rfl) rfl #[.slice A0 l0.length c0] rfl (by (try simp only [List.map_toArray, List.map_cons, List.map_nil]); first | done | rfl | (simp only [List.length_drop, List.length_take]; rfl)) ?_; (with_reducible refine (spec_DrawStarHas.calls k _ _ l0 t575 t576 _ ?side1 ?side2 A3.out).mono ?_); (case side1 => repeat (first | exact HR0.out | (with_reducible refine Kd.C_alloc ?_ _) | (with_reducible refine Kd.C_drewN ?_ _) | (with_reducible refine Kd.C_drew ?_))); (case side2 => exact HC0.out); rintro e w25 ⟨rfl, hb⟩; refine ⟨_, rfl, ?_⟩; have n0_ := Aside0.mk (below_step (by repeat (first | (with_reducible first | exact HB.out | apply below_alloc | apply pw_below_drewN | apply below_drew1) | exact HB.out)) hb); clear HB; have HB := n0_; clear n0_; (try clear hb); (try clear hb2); (try clear hk); (try clear hi)) | ((with_reducible refine gate_callee (f := 22) rfl ?_); refine goesL_ (some 20) rfl rfl Try.func22 (by kernel_rfl) rfl #[.string t575, .int .i64 t576] rfl (by (try simp only [List.map_toArray, List.map_cons, List.map_nil]); first | done | rfl | (simp only [List.length_drop, List.length_take]; rfl)) ?_; (with_reducible refine (impl_StarHas.calls k t575 t576 t577 _ A4.out).mono ?_); rintro e w26 ⟨rfl, hb⟩; refine ⟨_, rfl, ?_⟩; have n0_ := Aside0.mk (below_step (by repeat (first | (with_reducible first | exact HB.out | apply below_alloc | apply pw_below_drewN | apply below_drew1) | exact HB.out)) hb); clear HB; have HB := n0_; clear n0_; (try clear hb); (try clear hb2); (try clear hk); (try clear hi)) | ((with_reducible refine gate_callee (f := 23) rfl ?_); refine goesL_ (some 23) rfl rfl Try.func23 (by kernel_rfl) rfl #[.string t575, .int .i64 t576] rfl (by (try simp only [List.map_toArray, List.map_cons, List.map_nil]); first | done | rfl | (simp only [List.length_drop, List.length_take]; rfl)) ?_; (with_reducible refine (spec_StarHas.calls k t575 t576 t578 _ A5.out).mono ?_); rintro e w27 ⟨rfl, hb⟩; refine ⟨_, rfl, ?_⟩; have n0_ := Aside0.mk (below_step (by repeat (first | (with_reducible first | exact HB.out | apply below_alloc | apply pw_below_drewN | apply below_drew1) | exact HB.out)) hb); clear HB; have HB := n0_; clear n0_; (try clear hb); (try clear hb2); (try clear hk); (try clear hi)) | ((with_reducible refine gate_callee (f := 24) rfl ?_); refine goesL_ (some 31) rfl rfl Try.func24 (by kernel_rfl) rfl #[.string t575] rfl (by (try simp only [List.map_toArray, List.map_cons, List.map_nil]); first | done | rfl | (simp only [List.length_drop, List.length_take]; rfl)) ?_; (with_reducible refine (impl_StarOf.calls t575 t579 false _ A7.out).mono ?_); rintro e w28 ⟨rfl, hb⟩; refine ⟨_, rfl, ?_⟩; have n0_ := Aside0.mk (below_step (by repeat (first | (with_reducible first | exact HB.out | apply below_alloc | apply pw_below_drewN | apply below_drew1) | exact HB.out)) hb); clear HB; have HB := n0_; clear n0_; (try clear hb); (try clear hb2); (try clear hk); (try clear hi)))
        go_ret
        exact ⟨by first | rfl | (simp [errW_none, errW_some] <;> rfl) | (simp [*, errW_none, errW_some] <;> rfl) | (simp [errW_none, errW_some]; exact ⟨rfl, rfl⟩), by repeat (first | (with_reducible first | exact HB.out | apply below_alloc | apply pw_below_drewN | apply below_drew1) | exact HB.out)⟩
    · rw [if_neg c6] at H
      have c6b0 : (t577 == t578) = false := by simpa using c6
      (try (have c6b1 : decide (t577 = t578) = false := by simpa using c6))
      (try (have c6b2 : (t577 == t578) = false := by simpa using c6))
      (try (have c6b3 : ¬ (t577 = t578) := by simpa using c6))
      clear c6
      obtain rfl := Option.some.inj H
      go_enter Try.func7, Try.ntmps7
      go_wp2_with (first | ((with_reducible refine gate_callee (f := 21) rfl ?_); refine goesL_ (some 15) rfl rfl Try.func21 (by kernel_rfl) rfl #[.slice A0 l0.length c0] rfl (by (try simp only [List.map_toArray, List.map_cons, List.map_nil]); first | done | rfl | (simp only [List.length_drop, List.length_take]; rfl)) ?_; (with_reducible refine (spec_DrawStarHas.calls k _ _ l0 t575 t576 _ ?side1 ?side2 A3.out).mono ?_); (case side1 => repeat (first | exact HR0.out | (with_reducible refine Kd.C_alloc ?_ _) | (with_reducible refine Kd.C_drewN ?_ _) | (with_reducible refine Kd.C_drew ?_))); (case side2 => exact HC0.out); rintro e w29 ⟨rfl, hb⟩; refine ⟨_, rfl, ?_⟩; have n0_ := Aside0.mk (below_step (by repeat (first | (with_reducible first | exact HB.out | apply below_alloc | apply pw_below_drewN | apply below_drew1) | exact HB.out)) hb); clear HB; have HB := n0_; clear n0_; (try clear hb); (try clear hb2); (try clear hk); (try clear hi)) | ((with_reducible refine gate_callee (f := 22) rfl ?_); refine goesL_ (some 20) rfl rfl Try.func22 (by kernel_rfl) rfl #[.string t575, .int .i64 t576] rfl (by (try simp only [List.map_toArray, List.map_cons, List.map_nil]); first | done | rfl | (simp only [List.length_drop, List.length_take]; rfl)) ?_; (with_reducible refine (impl_StarHas.calls k t575 t576 t577 _ A4.out).mono ?_); rintro e w30 ⟨rfl, hb⟩; refine ⟨_, rfl, ?_⟩; have n0_ := Aside0.mk (below_step (by repeat (first | (with_reducible first | exact HB.out | apply below_alloc | apply pw_below_drewN | apply below_drew1) | exact HB.out)) hb); clear HB; have HB := n0_; clear n0_; (try clear hb); (try clear hb2); (try clear hk); (try clear hi)) | ((with_reducible refine gate_callee (f := 23) rfl ?_); refine goesL_ (some 23) rfl rfl Try.func23 (by kernel_rfl) rfl #[.string t575, .int .i64 t576] rfl (by (try simp only [List.map_toArray, List.map_cons, List.map_nil]); first | done | rfl | (simp only [List.length_drop, List.length_take]; rfl)) ?_; (with_reducible refine (spec_StarHas.calls k t575 t576 t578 _ A5.out).mono ?_); rintro e w31 ⟨rfl, hb⟩; refine ⟨_, rfl, ?_⟩; have n0_ := Aside0.mk (below_step (by repeat (first | (with_reducible first | exact HB.out | apply below_alloc | apply pw_below_drewN | apply below_drew1) | exact HB.out)) hb); clear HB; have HB := n0_; clear n0_; (try clear hb); (try clear hb2); (try clear hk); (try clear hi)))
      go_ret
      exact ⟨by first | rfl | (simp [errW_none, errW_some] <;> rfl) | (simp [*, errW_none, errW_some] <;> rfl) | (simp [errW_none, errW_some]; exact ⟨rfl, rfl⟩), by repeat (first | (with_reducible first | exact HB.out | apply below_alloc | apply pw_below_drewN | apply below_drew1) | exact HB.out)⟩

/-- THE ONE PURE STATEMENT of laws_FnStarHas: yours. -/
noncomputable def laws_FnStarHas.Pure : Prop := ∀ (l0 : List Int), l0.length ≤ maxLen → l0.length * 1 ≤ 140737488351232 → (∀ x ∈ l0, (Lit.int .u8 x).wf = true) → ∃ k, laws_FnStarHas.f k l0 = some true
theorem laws_FnStarHas.walk (P : laws_FnStarHas.Pure) (a0 : Option Addr) (len0 cap0 : Nat) (z0 : List Int) (w : World) (w0 : (a0 = none ∧ len0 = 0 ∧ cap0 = 0 ∧ z0 = []) ∨ ∃ x, a0 = some x ∧ len0 ≤ cap0 ∧ cap0 ≤ maxLen ∧ z0.length = cap0 ∧ (∀ i, i < z0.length → w.cell? (x.add i) = some (.int .u8 (z0.getD i 0))) ∧ ∀ n ∈ z0, (Lit.int .u8 n).wf = true) (y0 : len0 * 1 ≤ 140737488351232) :
    Calls Try.prog 7 #[.slice a0 len0 cap0] w fun e w' => e = .returned (.bool true) ∧ Below w.heap.size w w' := by
  obtain ⟨l0, rfl, hr0, hm0, hw0, hc0⟩ := ReadsInt.ofRowC w0
  obtain ⟨k, h⟩ := P l0 hm0 y0 hw0
  refine (laws_FnStarHas.calls k _ _ l0 true w (Kd.C_of_reads (d := (0 : Int)) (h1 := fun _ => rfl) hr0) hc0 h).mono ?_
  rintro e w' ⟨rfl, hd⟩
  exact ⟨rfl, hd⟩

end Go.Proofs.Ytaebonckcbhofaa.P

-- impl.StarHas and spec.StarHas.
namespace Go.Proofs.Ytaebonckcbhofaa.P
open Go.RowKit Go.Proofs.YtaebonckcbhofaaW.PrintWords Go.Proofs.YtaebonckcbhofaaW.PrintLast Go.Proofs.YtaebonckcbhofaaW.PrintMore
set_option linter.unusedVariables false
set_option linter.unusedSimpArgs false

/-- What StarHas answers. -/
noncomputable def sth (s : List UInt8) (n : Int) : Bool := smallB s && (decide (0 ≤ n ∧ n ≤ 2000) && stq (setf s) n.toNat)
theorem istarHas_f (s : ByteArray) (hs : s.size ≤ 70368744177664) (n : Int) : Ev (fun k => impl_StarHas.f k s n) (sth (chrs s) n) := by
  obtain ⟨x, y, hev, hxy⟩ := small_f s hs
  refine Ev.congr (fun k => rfl) (Ev.bind hev ?_)
  unfold sth
  cases hb : smallB (chrs s) with
  | false => simp only [Bool.false_eq_true, if_false, Bool.false_and]; exact Ev.now _
  | true =>
    simp only [if_true, in_f, Option.bind_some, Bool.true_and]
    by_cases hn : 0 ≤ n ∧ n ≤ 2000
    · obtain ⟨m, rfl⟩ := Int.eq_ofNat_of_zero_le hn.1
      obtain ⟨a, c, hp, hset, hm1, hm2, hpos, hper⟩ := smallB_ok hb
      obtain ⟨rfl, rfl⟩ := hxy (by rw [hp]; rfl)
      have hh1 : hasB (cn (setf (chrs s))).1 (cn (setf (chrs s))).2 = setf (chrs s) := by rw [hset]; exact cn_has (parse_per hp).1 (parse_per hp).2
      have hst := star_f (cn (setf (chrs s))).1 (cn (setf (chrs s))).2 (List.length_pos_iff.1 hpos) (by omega) (by omega) (m + 1) (by omega) (by omega)
      rw [hh1] at hst
      simp only [decide_eq_true hn, if_true, wsucc (show m ≤ 4611686018427387904 by omega), Bool.true_and, Int.toNat_natCast]
      refine Ev.bind hst ?_
      rw [if_pos (by omega), if_pos (by rw [mkT_length]; omega), rdOf_nat, mkT_get _ (Nat.lt_succ_self m)]
      exact Ev.now _
    · simp only [decide_eq_false hn, Bool.false_eq_true, if_false, Bool.false_and]; exact Ev.now _
theorem sstarHas_f (s : ByteArray) (hs : s.size ≤ 70368744177664) (n : Int) : Ev (fun k => spec_StarHas.f k s n) (sth (chrs s) n) := by
  obtain ⟨x, y, hev, hxy⟩ := l4small_f s hs
  refine Ev.congr (fun k => rfl) (Ev.bind hev ?_)
  unfold sth
  cases hb : smallB (chrs s) with
  | false => simp only [Bool.false_eq_true, if_false, Bool.false_and]; exact Ev.now _
  | true =>
    simp only [if_true, l6in_f, Option.bind_some, Bool.true_and]
    by_cases hn : 0 ≤ n ∧ n ≤ 2000
    · obtain ⟨m, rfl⟩ := Int.eq_ofNat_of_zero_le hn.1
      obtain ⟨a, c, hp, hset, hm1, hm2, hpos, hper⟩ := smallB_ok hb
      obtain ⟨rfl, rfl⟩ := hxy (by rw [hp]; rfl)
      have hh1 : hasB (cn (setf (chrs s))).1 (cn (setf (chrs s))).2 = setf (chrs s) := by rw [hset]; exact cn_has (parse_per hp).1 (parse_per hp).2
      have hst := l4star_f (cn (setf (chrs s))).1 (cn (setf (chrs s))).2 (List.length_pos_iff.1 hpos) (by omega) (by omega) (m + 1) (by omega) (by omega)
      rw [hh1] at hst
      simp only [decide_eq_true hn, if_true, wsucc (show m ≤ 4611686018427387904 by omega), Bool.true_and, Int.toNat_natCast]
      refine Ev.bind hst ?_
      rw [if_pos (by omega), if_pos (by rw [mkT_length]; omega), rdOf_nat, mkT_get _ (Nat.lt_succ_self m)]
      exact Ev.now _
    · simp only [decide_eq_false hn, Bool.false_eq_true, if_false, Bool.false_and]; exact Ev.now _
end Go.Proofs.Ytaebonckcbhofaa.P

-- For every code the law FnStarHas holds.
namespace Go.Proofs.Ytaebonckcbhofaa.P
open Go.RowKit Go.Proofs.YtaebonckcbhofaaW.PrintWords Go.Proofs.YtaebonckcbhofaaW.PrintLast Go.Proofs.YtaebonckcbhofaaW.PrintMore
set_option linter.unusedVariables false
set_option linter.unusedSimpArgs false

theorem drawStarHas_f (l : List Int) (h : ∀ x ∈ l, (Lit.int .u8 x).wf = true) : ∃ (s : ByteArray) (n : Int), Few s ∧ Ev (fun k => spec_DrawStarHas.f k l) (s, n) := by
  obtain ⟨s, q, hf, hq, K0, h0⟩ := set91_f (code_of h) 0 (by omega)
  dsimp only at h0
  have g0 : ∀ k, K0 ≤ k → spec_l91Set.f k (l.take 2000) 0 = some (s, (q : Int)) := h0
  obtain ⟨v1, hv1, K1, h1⟩ := pick_f (code_of h) q 40 (by omega) (by omega) (by omega)
  dsimp only at h1
  have g1 : ∀ k, K1 ≤ k → spec_l6Rd_pick.f k (l.take 2000) (q : Int) 40 = some ((v1 : Int), ((q + 1 : Nat) : Int)) := h1
  obtain ⟨v2, hv2, K2, h2⟩ := pick_f (code_of h) (q + 1) 250 (by omega) (by omega) (by omega)
  dsimp only at h2
  have g2 : ∀ k, K2 ≤ k → spec_l6Rd_pick.f k (l.take 2000) ((q + 1 : Nat) : Int) 250 = some ((v2 : Int), ((q + 1 + 1 : Nat) : Int)) := h2
  obtain ⟨v3, hv3, K3, h3⟩ := pick_f (code_of h) (q + 1 + 1) 5 (by omega) (by omega) (by omega)
  dsimp only at h3
  have g3 : ∀ k, K3 ≤ k → spec_l6Rd_pick.f k (l.take 2000) ((q + 1 + 1 : Nat) : Int) 5 = some ((v3 : Int), ((q + 1 + 1 + 1 : Nat) : Int)) := h3
  refine ⟨s, rd [(v1 : Int), (v2 : Int), 2000, 2001, (-1)] (v3 : Int), hf, K0 + K1 + K2 + K3, fun k hk => ?_⟩
  try dsimp only
  unfold spec_DrawStarHas.f
  rw [open_f, Option.bind_some, g0 k (by omega), Option.bind_some, g1 k (by omega), Option.bind_some, g2 k (by omega), Option.bind_some, Option.bind_some, g3 k (by omega), Option.bind_some, if_pos (by omega), if_pos (by simp; omega)]
theorem lawStarHas_ev (l : List Int) (h : ∀ x ∈ l, (Lit.int .u8 x).wf = true) : Ev (fun k => laws_FnStarHas.f k l) true := by
  by_cases hl : (l.length : Int) > 1048576
  · exact ⟨0, fun k _ => by dsimp only; unfold laws_FnStarHas.f; rw [if_pos hl]⟩
  · obtain ⟨s, n, hf, K1, h1⟩ := drawStarHas_f l h
    dsimp only at h1
    have hz := hf.size
    have hs : s.size ≤ 70368744177664 := by omega
    obtain ⟨K2, h2⟩ := istarHas_f s hs n
    dsimp only at h2
    obtain ⟨K3, h3⟩ := sstarHas_f s hs n
    dsimp only at h3
    have h4 := starOf_f s hs
    have z := str_sz (chrs s) true
    have main : Ev (fun k => if (str (chrs s) true).2 = true then (if n > 2000 then (some true) else (if n < 0 then (some true) else ((impl_SetHas.f k (str (chrs s) true).1 n).bind fun t581 => (some (t581 == sth (chrs s) n))))) else (some true)) true := by
      cases g : (str (chrs s) true).2 with
      | false => exact Ev.now _
      | true =>
        by_cases c1 : n > 2000
        · exact ⟨0, fun k _ => by dsimp only; rw [if_pos (by trivial), if_pos c1]⟩
        · by_cases c2 : n < 0
          · exact ⟨0, fun k _ => by dsimp only; rw [if_pos (by trivial), if_neg c1, if_pos c2]⟩
          · obtain ⟨m, rfl⟩ := Int.eq_ofNat_of_zero_le (show 0 ≤ n by omega)
            obtain ⟨m1, p, hp0, hper, he, hA⟩ := str_ok g
            obtain ⟨K, hK⟩ := isetHas_f (str (chrs s) true).1 (by omega) m (by omega)
            dsimp only at hK
            have hx : setf (chrs (str (chrs s) true).1) m = sth (chrs s) (m : Int) := by
              rw [he, txt_setf hp0 hper hA]
              unfold sth
              rw [str_small g, decide_eq_true (show (0 : Int) ≤ (m : Int) ∧ (m : Int) ≤ 2000 by omega), Int.toNat_natCast]; rfl
            rw [hx] at hK
            refine ⟨K, fun k hk => ?_⟩
            dsimp only
            rw [if_pos (by trivial), if_neg c1, if_neg c2, hK k hk, Option.bind_some, BEq.rfl]
    obtain ⟨K4, h5⟩ := main
    dsimp only at h5
    refine ⟨K1 + K2 + K3 + K4, fun k hk => ?_⟩
    try dsimp only
    unfold laws_FnStarHas.f
    rw [if_neg hl, h1 k (by omega), Option.bind_some]
    try dsimp only
    rw [h2 k (by omega), Option.bind_some, h3 k (by omega), Option.bind_some, if_pos (by simp), h4, Option.bind_some]
    exact h5 k (by omega)
theorem lawStarHas_pure : laws_FnStarHas.Pure := fun l _ _ h => (lawStarHas_ev l h).rounds
end Go.Proofs.Ytaebonckcbhofaa.P

-- For every code the law FnStarHas holds.
namespace Go.Proofs.Ytaebonckcbhofaa.Pure
theorem FnStarHas : Go.Proofs.Ytaebonckcbhofaa.P.laws_FnStarHas.Pure := Go.Proofs.Ytaebonckcbhofaa.P.lawStarHas_pure
end Go.Proofs.Ytaebonckcbhofaa.Pure
