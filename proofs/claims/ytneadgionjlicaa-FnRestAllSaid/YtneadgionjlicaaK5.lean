/- What these laws reach, joined by a program of this session: contracts (written by that program over the kit's print, or by hand) and plain lemmas. -/
import Derived.Test.YtneadgionjlicaaK1
import Derived.Test.YtneadgionjlicaaK3
import Derived.Test.YtneadgionjlicaaK4
-- impl.RestAll.
namespace Go.Proofs.Ytneadgionjlicaa.P
open Go.RowKit Go.Proofs.YtneadgionjlicaaW.PrintWords Go.Proofs.YtneadgionjlicaaW.PrintLast Go.Proofs.YtneadgionjlicaaW.PrintMore
set_option linter.unusedVariables false
set_option linter.unusedSimpArgs false

noncomputable def impl_RestAll.f (s t : ByteArray) : Option (ByteArray × Bool) := if s.size ≤ 70368744177664 ∧ t.size ≤ 70368744177664 then some (rsr (chrs s) (chrs t) true) else none
theorem restAll_f (s t : ByteArray) (hs : s.size ≤ 70368744177664) (ht : t.size ≤ 70368744177664) : impl_RestAll.f s t = some (rsr (chrs s) (chrs t) true) := by unfold impl_RestAll.f; rw [if_pos ⟨hs, ht⟩]

set_option maxHeartbeats 8000000 in
set_option maxRecDepth 100000 in
theorem restAll_q_calls (t r t2 r2 : List Bool) (hr : r ≠ []) (hr2 : r2 ≠ []) (hl : t.length ≤ 60 ∧ r.length ≤ 60) (hl2 : t2.length ≤ 60 ∧ r2.length ≤ 60) (A0 : Option Addr) (c0 : Nat) (A1 : Option Addr) (c1 : Nat) (A2 : Option Addr) (c2 : Nat) (A3 : Option Addr) (c3 n b : Nat) (hn : n ≤ 1000000) (W : World)
    (hC0 : Kd.C Kd.bool W A0 t.length t) (h0 : t.length ≤ c0) (hC1 : Kd.C Kd.bool W A1 r.length r) (h1 : r.length ≤ c1) (hC2 : Kd.C Kd.bool W A2 t2.length t2) (h2 : t2.length ≤ c2) (hC3 : Kd.C Kd.bool W A3 r2.length r2) (h3 : r2.length ≤ c3)
    (hb0 : W.cell? ⟨b, 0, none⟩ = some (.slice A2 t2.length c2)) (hb1 : W.cell? ⟨b, 1, none⟩ = some (.slice A3 r2.length c3)) :
    Calls Try.prog 36 #[.agg #[.slice A0 t.length c0, .slice A1 r.length c1], .int .i64 n, .pointer (some ⟨b, 0, none⟩)] W fun e w' => e = .returned (.bool (qs (hasB t r) (hasB t2 r2) true n)) ∧ Below W.heap.size W w' := by
  obtain ⟨k, hk⟩ := (some_f t r t2 r2 hr hr2 hl.1 hl.2 hl2.1 hl2.2 true n hn).rounds
  have HC := fun (o : Obj) => Aside0.mk (impl_set_some.calls k A0 c0 t A1 c1 r A2 c2 t2 A3 c3 r2 (n : Int) true (qs (hasB t r) (hasB t2 r2) true n) (W.alloc o) (Kd.C_alloc hC0 o) h0 (Kd.C_alloc hC1 o) h1 (Kd.C_alloc hC2 o) h2 (Kd.C_alloc hC3 o) h3 hk)
  have hx0 : ∀ o, (W.alloc o).cell? ⟨b, 0, none⟩ = some (.slice A2 t2.length c2) := fun o => Lib.cell?_alloc_some _ hb0
  have hx1 : ∀ o, (W.alloc o).cell? ⟨b, 1, none⟩ = some (.slice A3 r2.length c3) := fun o => Lib.cell?_alloc_some _ hb1
  have hu := Try.underlying48
  generalize qs (hasB t r) (hasB t2 r2) true n = res at *
  clear hC0 hC1 hC2 hC3 h0 h1 h2 h3 hl hl2 hr hr2 hb0 hb1 hk
  go_enter Try.func36, Try.ntmps36
  go_wp2_with (go_at_call 33; refine (HC _).out.mono ?_; rintro e w' ⟨rfl, hb⟩)
  go_ret
  exact ⟨rfl, below_step (below_alloc (Below.refl _ _) _) hb⟩

set_option maxHeartbeats 8000000 in
set_option maxRecDepth 100000 in
theorem impl_RestAll.calls (a0 a1 : ByteArray) (r1 : ByteArray) (r2 : Bool) (w : World) (h : impl_RestAll.f a0 a1 = some (r1, r2)) :
    Calls Try.prog 13 #[.string a0, .string a1] w fun e w' => e = .returned (.tuple #[.string r1, .bool r2]) ∧ Below w.heap.size w w' := by
  unfold impl_RestAll.f at h
  split at h
  · rename_i hs
    simp only [Option.some.injEq] at h
    obtain ⟨x, y, hev, hxy⟩ := setOf_f a1 hs.2
    obtain ⟨k, hk⟩ := hev.rounds
    have eg : ∀ args w, (callFunc 36 args).run Try.prog w = .ok (.enter 36 args) w := enters_of Try.func36 (by kernel_rfl) rfl
    obtain ⟨bm, hbm⟩ : ∃ bm, (parse (chrs a1)).isSome = bm := ⟨_, rfl⟩
    rw [hbm] at hk
    have hx : ∀ (w1 : World) (b : Nat) (A2 : Option Addr) (c2 : Nat) (A3 : Option Addr) (c3 : Nat), Kd.C Kd.bool w1 A2 x.length x → x.length ≤ c2 → Kd.C Kd.bool w1 A3 y.length y → y.length ≤ c3 → w1.cell? ⟨b, 0, none⟩ = some (.slice A2 x.length c2) → w1.cell? ⟨b, 1, none⟩ = some (.slice A3 y.length c3) → b < w1.heap.size →
        Calls Try.prog 31 #[.string a0, .bool bm, .func (.func 36) #[] #[.pointer (some ⟨b, 0, none⟩)]] w1 fun e w' => e = .returned (.tuple #[.string r1, .bool r2]) ∧ Below w1.heap.size w1 w' := by
      intro w1 b A2 c2 A3 c3 hC2 h2 hC3 h3 hb0 hb1 hlt
      have := single_calls a0 hs.1 bm 36 #[.pointer (some ⟨b, 0, none⟩)] (qs (setf (chrs a0)) (setf (chrs a1)) true) w1 eg
        (fun _ t r hp => by rw [setf_some hp]; exact qs_per (hasB_per t r) _ _)
        (fun hm t r hp W A0 c0 A1 c1 n hW hC0 h0 hC1 h1 hn => by
          have hb := parse_some hp
          rw [← hbm] at hm
          obtain ⟨⟨a, c⟩, hpp⟩ := Option.isSome_iff_exists.1 hm
          obtain ⟨rfl, rfl⟩ := hxy a c hpp
          have hb2 := parse_some hpp
          rw [setf_some hp, setf_some hpp]
          exact restAll_q_calls t r x y hb.2.2 hb2.2.2 ⟨hb.1, hb.2.1⟩ ⟨hb2.1, hb2.2.1⟩ A0 c0 A1 c1 A2 c2 A3 c3 n b (by omega) W hC0 h0 hC1 h1 (Kd.C_below hC2 hW) h2 (Kd.C_below hC3 hW) h3 ((hW.cell (p := ⟨b, 0, none⟩) hlt).trans hb0) ((hW.cell (p := ⟨b, 1, none⟩) hlt).trans hb1))
      unfold rsr at h
      rw [hbm] at h
      rw [h] at this
      exact this
    have HX := Aside0.mk hx
    have HK := fun w => Aside0.mk (impl_setOf.calls k a1 x y bm w hk)
    have hu := Try.underlying48
    clear hx h hs eg hk hev hxy hbm
    go_enter Try.func13, Try.ntmps13
    go_wp2_with (first
      | (go_at_call 30; refine (HK _).out.mono ?_; rintro e w1 ⟨v0_, v1_, rfl, hR0, hR1, hb1⟩; obtain ⟨A0, n0, rfl, hn0, hC0⟩ := Kd.R_reads hR0; obtain ⟨A1, n1, rfl, hn1, hC1⟩ := Kd.R_reads hR1; have C0 := Aside0.mk hC0; have C1 := Aside0.mk hC1; have N0 := Aside0.mk hn0; have N1 := Aside0.mk hn1; clear hR0 hR1 hC0 hC1 hn0 hn1; have HB := Aside0.mk hb1; clear hb1)
      | (go_at_call 31; refine (HX.out _ w1.heap.size A0 n0 A1 n1 (Kd.C_alloc C0.out _) N0.out (Kd.C_alloc C1.out _) N1.out (by simp) (by simp) (by simp)).mono ?_; rintro e w2 ⟨rfl, hb2⟩))
    go_ret2
    exact ⟨rfl, below_step (below_alloc HB.out _) hb2⟩
  · cases h
end Go.Proofs.Ytneadgionjlicaa.P

namespace Go.Proofs.Ytneadgionjlicaa.P
open Go.RowKit Go.Proofs.YtneadgionjlicaaW.PrintWords Go.Proofs.YtneadgionjlicaaW.PrintLast Go.Proofs.YtneadgionjlicaaW.PrintMore
attribute [local go_sem] max2_int min2_int max_two min_two max_three min_three max_four min_four   -- for this text's walks alone
set_option linter.unusedVariables false
set_option linter.unusedSimpArgs false

/-! ### spec_DrawRestAll: function 12 -/
def spec_DrawRestAll.f (k : Nat) (l0 : List Int) : Option (ByteArray × ByteArray) := (spec_l6Open.f l0).bind fun bt380 => ((spec_l91Set.f k bt380.1 bt380.2).bind fun bt383 => ((spec_l91Set.f k bt380.1 bt383.2).bind fun bt385 => (some (bt383.1, bt385.1))))
theorem spec_DrawRestAll.mono : ∀ a0 k, LeO (spec_DrawRestAll.f k a0) (spec_DrawRestAll.f (k + 1) a0) := by
  intro a0 k
  unfold spec_DrawRestAll.f
  repeat' first
      | (with_reducible exact spec_l91Set.mono _ _ _)
      | (with_reducible exact LeO.refl _)
      | (with_reducible exact LeO.none _)
      | (with_reducible refine LeO.ite ?_ ?_)
      | (with_reducible refine LeO.bind ?_ (fun _ => ?_))
      | exact spec_l91Set.mono _ _ _
      | exact LeO.none _
      | refine LeO.ite ?_ ?_
      | refine LeO.bind ?_ (fun _ => ?_)
set_option maxHeartbeats 8000000 in
set_option maxRecDepth 100000 in
theorem spec_DrawRestAll.calls (k : Nat) (A0 : Option Addr) (c0 : Nat) (l0 : List Int) (r1 : ByteArray) (r2 : ByteArray) (w : World) (hr0 : Kd.C (Kd.int .u8) w A0 l0.length l0) (hc0 : l0.length ≤ c0) (h : spec_DrawRestAll.f k l0 = some (r1, r2)) :
    Calls Try.prog 12 #[.slice A0 l0.length c0] w fun e w' => e = .returned (.tuple #[.string r1, .string r2]) ∧ Below w.heap.size w w' := by
  have HR0 := Aside0.mk hr0
  have HC0 := Aside0.mk hc0
  clear hr0 hc0
  have HB := Aside0.mk (Below.refl w.heap.size w)
  have H : ((spec_l6Open.f l0).bind fun bt380 => ((spec_l91Set.f k bt380.1 bt380.2).bind fun bt383 => ((spec_l91Set.f k bt380.1 bt383.2).bind fun bt385 => (some (bt383.1, bt385.1))))) = some (r1, r2) := h
  clear h
  replace H := Option.bind_eq_some_iff.mp H
  obtain ⟨⟨t380, t381⟩, A20, H⟩ := H
  replace H : ((spec_l91Set.f k t380 t381).bind fun bt383 => ((spec_l91Set.f k t380 bt383.2).bind fun bt385 => (some (bt383.1, bt385.1)))) = some (r1, r2) := H
  have A2 := Aside0.mk A20
  clear A20
  replace H := Option.bind_eq_some_iff.mp H
  obtain ⟨⟨t383, t384⟩, A30, H⟩ := H
  replace H : ((spec_l91Set.f k t380 t384).bind fun bt385 => (some (t383, bt385.1))) = some (r1, r2) := H
  have A3 := Aside0.mk A30
  clear A30
  replace H := Option.bind_eq_some_iff.mp H
  obtain ⟨⟨t385, t386⟩, A40, H⟩ := H
  replace H : (some (t383, t385)) = some (r1, r2) := H
  have A4 := Aside0.mk A40
  clear A40
  simp only [Option.some.injEq, Prod.mk.injEq] at H
  obtain ⟨rfl, rfl⟩ := H
  go_enter Try.func12, Try.ntmps12
  go_wp2_with (first | ((with_reducible refine gate_callee (f := 28) rfl ?_); refine goesL_ (some 6) rfl rfl Try.func28 (by kernel_rfl) rfl #[.slice A0 l0.length c0] rfl (by (try simp only [List.map_toArray, List.map_cons, List.map_nil]); first | done | rfl | (simp only [List.length_drop, List.length_take]; rfl)) ?_; (with_reducible refine (spec_l6Open.calls _ _ l0 t380 t381 w _ ?side1 ?side2 ?side3 A2.out).mono ?_); (case side1 => repeat (first | (with_reducible first | exact HB.out | apply below_alloc | apply pw_below_drewN | apply below_drew1) | exact HB.out)); (case side2 => exact HR0.out); (case side3 => exact HC0.out); rintro e w5 ⟨g382, rfl, hi, hb, hb2⟩; refine ⟨_, rfl, ?_⟩; have n0_ := Aside0.mk (hb); have n1_ := Aside0.mk (hi); clear HB; have HB := n0_; have HI382 := n1_; clear n0_ n1_; (try clear hb); (try clear hb2); (try clear hk); (try clear hi)) | ((with_reducible refine gate_callee (f := 29) rfl ?_); refine goesL_ (some 8) rfl rfl Try.func29 (by kernel_rfl) rfl #[.pointer (some ⟨g382, 0, none⟩)] rfl (by (try simp only [List.map_toArray, List.map_cons, List.map_nil]); first | done | rfl | (simp only [List.length_drop, List.length_take]; rfl)) ?_; (with_reducible refine (spec_l91Set.calls k g382 t380 t381 t383 t384 w _ ?side1 ?side2 A3.out).mono ?_); (case side1 => repeat (first | (with_reducible first | exact HI382.out | apply IsS74.alloc | apply IsS74.drewN | apply IsS74.drew | apply IsS74.set_1) | exact HI382.out)); (case side2 => repeat (first | (with_reducible first | exact HB.out | apply below_alloc | apply pw_below_drewN | apply below_drew1 | refine below_set ?_ (IsS74.ge HI382.out)) | exact HB.out)); rintro e w6 ⟨rfl, hi, hb, hk⟩; refine ⟨_, rfl, ?_⟩; have n0_ := Aside0.mk (hb); have n1_ := Aside0.mk (hi); clear HB; clear HI382; have HB := n0_; have HI382 := n1_; clear n0_ n1_; (try clear hb); (try clear hb2); (try clear hk); (try clear hi)) | ((with_reducible refine gate_callee (f := 29) rfl ?_); refine goesL_ (some 10) rfl rfl Try.func29 (by kernel_rfl) rfl #[.pointer (some ⟨g382, 0, none⟩)] rfl (by (try simp only [List.map_toArray, List.map_cons, List.map_nil]); first | done | rfl | (simp only [List.length_drop, List.length_take]; rfl)) ?_; (with_reducible refine (spec_l91Set.calls k g382 t380 t384 t385 t386 w _ ?side1 ?side2 A4.out).mono ?_); (case side1 => repeat (first | (with_reducible first | exact HI382.out | apply IsS74.alloc | apply IsS74.drewN | apply IsS74.drew | apply IsS74.set_1) | exact HI382.out)); (case side2 => repeat (first | (with_reducible first | exact HB.out | apply below_alloc | apply pw_below_drewN | apply below_drew1 | refine below_set ?_ (IsS74.ge HI382.out)) | exact HB.out)); rintro e w7 ⟨rfl, hi, hb, hk⟩; refine ⟨_, rfl, ?_⟩; have n0_ := Aside0.mk (hb); have n1_ := Aside0.mk (hi); clear HB; clear HI382; have HB := n0_; have HI382 := n1_; clear n0_ n1_; (try clear hb); (try clear hb2); (try clear hk); (try clear hi)))
  go_ret2
  exact ⟨by first | rfl | (simp [errW_none, errW_some] <;> rfl) | (simp [*, errW_none, errW_some] <;> rfl) | (simp [errW_none, errW_some]; exact ⟨rfl, rfl⟩), by repeat (first | (with_reducible first | exact HB.out | apply below_alloc | apply pw_below_drewN | apply below_drew1 | refine below_set ?_ (IsS74.ge HI382.out)) | exact HB.out)⟩

end Go.Proofs.Ytneadgionjlicaa.P

namespace Go.Proofs.Ytneadgionjlicaa.P
open Go.RowKit Go.Proofs.YtneadgionjlicaaW.PrintWords Go.Proofs.YtneadgionjlicaaW.PrintLast Go.Proofs.YtneadgionjlicaaW.PrintMore
attribute [local go_sem] max2_int min2_int max_two min_two max_three min_three max_four min_four   -- for this text's walks alone
set_option linter.unusedVariables false
set_option linter.unusedSimpArgs false

/-! ### spec_RestAll: function 14 -/
def spec_RestAll.f (k : Nat) (a0 : ByteArray) (a1 : ByteArray) : Option (ByteArray × Bool) := (spec_l5Quot.f k a0 a1 true).bind fun bt387 => (some (bt387.1, bt387.2))
theorem spec_RestAll.mono : ∀ a0 a1 k, LeO (spec_RestAll.f k a0 a1) (spec_RestAll.f (k + 1) a0 a1) := by
  intro a0 a1 k
  unfold spec_RestAll.f
  repeat' first
      | (with_reducible exact spec_l5Quot.mono _ _ _ _)
      | (with_reducible exact LeO.refl _)
      | (with_reducible exact LeO.none _)
      | (with_reducible refine LeO.ite ?_ ?_)
      | (with_reducible refine LeO.bind ?_ (fun _ => ?_))
      | exact spec_l5Quot.mono _ _ _ _
      | exact LeO.none _
      | refine LeO.ite ?_ ?_
      | refine LeO.bind ?_ (fun _ => ?_)
set_option maxHeartbeats 8000000 in
set_option maxRecDepth 100000 in
theorem spec_RestAll.calls (k : Nat) (a0 : ByteArray) (a1 : ByteArray) (r1 : ByteArray) (r2 : Bool) (w : World) (h : spec_RestAll.f k a0 a1 = some (r1, r2)) :
    Calls Try.prog 14 #[.string a0, .string a1] w fun e w' => e = .returned (.tuple #[.string r1, .bool r2]) ∧ Below w.heap.size w w' := by
  have HB := Aside0.mk (Below.refl w.heap.size w)
  have H : ((spec_l5Quot.f k a0 a1 true).bind fun bt387 => (some (bt387.1, bt387.2))) = some (r1, r2) := h
  clear h
  replace H := Option.bind_eq_some_iff.mp H
  obtain ⟨⟨t387, t388⟩, A30, H⟩ := H
  replace H : (some (t387, t388)) = some (r1, r2) := H
  have A3 := Aside0.mk A30
  clear A30
  simp only [Option.some.injEq, Prod.mk.injEq] at H
  obtain ⟨rfl, rfl⟩ := H
  go_enter Try.func14, Try.ntmps14
  go_wp2_with (first | ((with_reducible refine gate_callee (f := 34) rfl ?_); refine goesL_ (some 8) rfl rfl Try.func34 (by kernel_rfl) rfl #[.string a0, .string a1, .bool true] rfl (by (try simp only [List.map_toArray, List.map_cons, List.map_nil]); first | done | rfl | (simp only [List.length_drop, List.length_take]; rfl)) ?_; (with_reducible refine (spec_l5Quot.calls k a0 a1 true t387 t388 _ A3.out).mono ?_); rintro e w4 ⟨rfl, hb⟩; refine ⟨_, rfl, ?_⟩; have n0_ := Aside0.mk (below_step (by repeat (first | (with_reducible first | exact HB.out | apply below_alloc | apply pw_below_drewN | apply below_drew1) | exact HB.out)) hb); clear HB; have HB := n0_; clear n0_; (try clear hb); (try clear hb2); (try clear hk); (try clear hi)))
  go_ret2
  exact ⟨by first | rfl | (simp [errW_none, errW_some] <;> rfl) | (simp [*, errW_none, errW_some] <;> rfl) | (simp [errW_none, errW_some]; exact ⟨rfl, rfl⟩), by repeat (first | (with_reducible first | exact HB.out | apply below_alloc | apply pw_below_drewN | apply below_drew1) | exact HB.out)⟩

end Go.Proofs.Ytneadgionjlicaa.P

namespace Go.Proofs.Ytneadgionjlicaa.P
open Go.RowKit Go.Proofs.YtneadgionjlicaaW.PrintWords Go.Proofs.YtneadgionjlicaaW.PrintLast Go.Proofs.YtneadgionjlicaaW.PrintMore
attribute [local go_sem] max2_int min2_int max_two min_two max_three min_three max_four min_four   -- for this text's walks alone
set_option linter.unusedVariables false
set_option linter.unusedSimpArgs false

/-! ### laws_FnRestAll: function 4 -/
mutual
noncomputable def laws_FnRestAll.j0 : Nat → ByteArray → ByteArray → ByteArray → Bool → Bool → Option (Bool)
  | 0, _, _, _, _, _ => none
  | k + 1, x3, x4, x5, x6, x9 => if x9 = true then (laws_FnRestAll.j1 k x3 x4 x5 x9 (!x6)) else (laws_FnRestAll.j1 k x3 x4 x5 x9 true)
noncomputable def laws_FnRestAll.j1 : Nat → ByteArray → ByteArray → ByteArray → Bool → Bool → Option (Bool)
  | 0, _, _, _, _, _ => none
  | k + 1, x3, x4, x5, x9, x46 => if x46 = true then (some x9) else (laws_FnRestAll.l0 k x3 x4 x5 0)
noncomputable def laws_FnRestAll.l0 : Nat → ByteArray → ByteArray → ByteArray → Int → Option (Bool)
  | 0, _, _, _, _ => none
  | k + 1, x3, x4, x5, x10 => if x10 ≤ 40 then (laws_FnRestAll.l1 k x3 x4 x5 x10 true 0) else (some true)
noncomputable def laws_FnRestAll.l1 : Nat → ByteArray → ByteArray → ByteArray → Int → Bool → Int → Option (Bool)
  | 0, _, _, _, _, _, _ => none
  | k + 1, x3, x4, x5, x10, x11, x12 => if x12 ≤ 150 then (if x11 = true then ((impl_SetHas.f k x4 x12).bind fun t395 => (if t395 = true then ((impl_SetHas.f k x3 (wrap64 (x10 + x12))).bind fun t396 => (laws_FnRestAll.l1 k x3 x4 x5 x10 t396 (wrap64 (x12 + 1)))) else (laws_FnRestAll.l1 k x3 x4 x5 x10 true (wrap64 (x12 + 1))))) else (laws_FnRestAll.l1 k x3 x4 x5 x10 false (wrap64 (x12 + 1)))) else ((impl_SetHas.f k x5 x10).bind fun t397 => (if (t397 != x11) = true then (some false) else (laws_FnRestAll.l0 k x3 x4 x5 (wrap64 (x10 + 1)))))
end
noncomputable def laws_FnRestAll.f (k : Nat) (l0 : List Int) : Option (Bool) := if (l0.length : Int) > 1048576 then (some true) else ((spec_DrawRestAll.f k l0).bind fun bt389 => ((impl_RestAll.f bt389.1 bt389.2).bind fun bt391 => ((spec_RestAll.f k bt389.1 bt389.2).bind fun bt393 => (if bt391.1.toList = bt393.1.toList then (laws_FnRestAll.j0 k bt389.1 bt389.2 bt391.1 bt391.2 (bt391.2 == bt393.2)) else (laws_FnRestAll.j0 k bt389.1 bt389.2 bt391.1 bt391.2 false)))))
theorem laws_FnRestAll.mono_l : ∀ k, (∀ y0 y1 y2 y3 y4, LeO (laws_FnRestAll.j0 k y0 y1 y2 y3 y4) (laws_FnRestAll.j0 (k + 1) y0 y1 y2 y3 y4)) ∧ (∀ y0 y1 y2 y3 y4, LeO (laws_FnRestAll.j1 k y0 y1 y2 y3 y4) (laws_FnRestAll.j1 (k + 1) y0 y1 y2 y3 y4)) ∧ (∀ y0 y1 y2 y3, LeO (laws_FnRestAll.l0 k y0 y1 y2 y3) (laws_FnRestAll.l0 (k + 1) y0 y1 y2 y3)) ∧ (∀ y0 y1 y2 y3 y4 y5, LeO (laws_FnRestAll.l1 k y0 y1 y2 y3 y4 y5) (laws_FnRestAll.l1 (k + 1) y0 y1 y2 y3 y4 y5))
  | 0 => ⟨fun _ _ _ _ _ r h => by simp [laws_FnRestAll.j0] at h, fun _ _ _ _ _ r h => by simp [laws_FnRestAll.j1] at h, fun _ _ _ _ r h => by simp [laws_FnRestAll.l0] at h, fun _ _ _ _ _ _ r h => by simp [laws_FnRestAll.l1] at h⟩
  | k + 1 => by
    obtain ⟨ih0, ih1, ih2, ih3⟩ := laws_FnRestAll.mono_l k
    refine ⟨?_, ?_, ?_, ?_⟩
    · intro y0 y1 y2 y3 y4
      unfold laws_FnRestAll.j0
      repeat' first
      | (with_reducible exact ih0 _ _ _ _ _)
      | (with_reducible exact ih1 _ _ _ _ _)
      | (with_reducible exact ih2 _ _ _ _)
      | (with_reducible exact ih3 _ _ _ _ _ _)
      | (with_reducible exact impl_SetHas.mono _ _ _)
      | (with_reducible exact spec_DrawRestAll.mono _ _)
      | (with_reducible exact spec_RestAll.mono _ _ _)
      | (with_reducible exact LeO.refl _)
      | (with_reducible exact LeO.none _)
      | (with_reducible refine LeO.ite ?_ ?_)
      | (with_reducible refine LeO.bind ?_ (fun _ => ?_))
      | exact ih0 _ _ _ _ _
      | exact ih1 _ _ _ _ _
      | exact ih2 _ _ _ _
      | exact ih3 _ _ _ _ _ _
      | exact impl_SetHas.mono _ _ _
      | exact spec_DrawRestAll.mono _ _
      | exact spec_RestAll.mono _ _ _
      | exact LeO.none _
      | refine LeO.ite ?_ ?_
      | refine LeO.bind ?_ (fun _ => ?_)
    · intro y0 y1 y2 y3 y4
      unfold laws_FnRestAll.j1
      repeat' first
      | (with_reducible exact ih0 _ _ _ _ _)
      | (with_reducible exact ih1 _ _ _ _ _)
      | (with_reducible exact ih2 _ _ _ _)
      | (with_reducible exact ih3 _ _ _ _ _ _)
      | (with_reducible exact impl_SetHas.mono _ _ _)
      | (with_reducible exact spec_DrawRestAll.mono _ _)
      | (with_reducible exact spec_RestAll.mono _ _ _)
      | (with_reducible exact LeO.refl _)
      | (with_reducible exact LeO.none _)
      | (with_reducible refine LeO.ite ?_ ?_)
      | (with_reducible refine LeO.bind ?_ (fun _ => ?_))
      | exact ih0 _ _ _ _ _
      | exact ih1 _ _ _ _ _
      | exact ih2 _ _ _ _
      | exact ih3 _ _ _ _ _ _
      | exact impl_SetHas.mono _ _ _
      | exact spec_DrawRestAll.mono _ _
      | exact spec_RestAll.mono _ _ _
      | exact LeO.none _
      | refine LeO.ite ?_ ?_
      | refine LeO.bind ?_ (fun _ => ?_)
    · intro y0 y1 y2 y3
      unfold laws_FnRestAll.l0
      repeat' first
      | (with_reducible exact ih0 _ _ _ _ _)
      | (with_reducible exact ih1 _ _ _ _ _)
      | (with_reducible exact ih2 _ _ _ _)
      | (with_reducible exact ih3 _ _ _ _ _ _)
      | (with_reducible exact impl_SetHas.mono _ _ _)
      | (with_reducible exact spec_DrawRestAll.mono _ _)
      | (with_reducible exact spec_RestAll.mono _ _ _)
      | (with_reducible exact LeO.refl _)
      | (with_reducible exact LeO.none _)
      | (with_reducible refine LeO.ite ?_ ?_)
      | (with_reducible refine LeO.bind ?_ (fun _ => ?_))
      | exact ih0 _ _ _ _ _
      | exact ih1 _ _ _ _ _
      | exact ih2 _ _ _ _
      | exact ih3 _ _ _ _ _ _
      | exact impl_SetHas.mono _ _ _
      | exact spec_DrawRestAll.mono _ _
      | exact spec_RestAll.mono _ _ _
      | exact LeO.none _
      | refine LeO.ite ?_ ?_
      | refine LeO.bind ?_ (fun _ => ?_)
    · intro y0 y1 y2 y3 y4 y5
      unfold laws_FnRestAll.l1
      repeat' first
      | (with_reducible exact ih0 _ _ _ _ _)
      | (with_reducible exact ih1 _ _ _ _ _)
      | (with_reducible exact ih2 _ _ _ _)
      | (with_reducible exact ih3 _ _ _ _ _ _)
      | (with_reducible exact impl_SetHas.mono _ _ _)
      | (with_reducible exact spec_DrawRestAll.mono _ _)
      | (with_reducible exact spec_RestAll.mono _ _ _)
      | (with_reducible exact LeO.refl _)
      | (with_reducible exact LeO.none _)
      | (with_reducible refine LeO.ite ?_ ?_)
      | (with_reducible refine LeO.bind ?_ (fun _ => ?_))
      | exact ih0 _ _ _ _ _
      | exact ih1 _ _ _ _ _
      | exact ih2 _ _ _ _
      | exact ih3 _ _ _ _ _ _
      | exact impl_SetHas.mono _ _ _
      | exact spec_DrawRestAll.mono _ _
      | exact spec_RestAll.mono _ _ _
      | exact LeO.none _
      | refine LeO.ite ?_ ?_
      | refine LeO.bind ?_ (fun _ => ?_)
theorem laws_FnRestAll.mono : ∀ a0 k, LeO (laws_FnRestAll.f k a0) (laws_FnRestAll.f (k + 1) a0) := by
  intro a0 k
  obtain ⟨ih0, ih1, ih2, ih3⟩ := laws_FnRestAll.mono_l k
  unfold laws_FnRestAll.f
  repeat' first
      | (with_reducible exact ih0 _ _ _ _ _)
      | (with_reducible exact ih1 _ _ _ _ _)
      | (with_reducible exact ih2 _ _ _ _)
      | (with_reducible exact ih3 _ _ _ _ _ _)
      | (with_reducible exact impl_SetHas.mono _ _ _)
      | (with_reducible exact spec_DrawRestAll.mono _ _)
      | (with_reducible exact spec_RestAll.mono _ _ _)
      | (with_reducible exact LeO.refl _)
      | (with_reducible exact LeO.none _)
      | (with_reducible refine LeO.ite ?_ ?_)
      | (with_reducible refine LeO.bind ?_ (fun _ => ?_))
      | exact ih0 _ _ _ _ _
      | exact ih1 _ _ _ _ _
      | exact ih2 _ _ _ _
      | exact ih3 _ _ _ _ _ _
      | exact impl_SetHas.mono _ _ _
      | exact spec_DrawRestAll.mono _ _
      | exact spec_RestAll.mono _ _ _
      | exact LeO.none _
      | refine LeO.ite ?_ ?_
      | refine LeO.bind ?_ (fun _ => ?_)
set_option maxHeartbeats 8000000 in
set_option maxRecDepth 100000 in
theorem laws_FnRestAll.calls (k : Nat) (A0 : Option Addr) (c0 : Nat) (l0 : List Int) (r : Bool) (w : World) (hr0 : Kd.C (Kd.int .u8) w A0 l0.length l0) (hc0 : l0.length ≤ c0) (h : laws_FnRestAll.f k l0 = some r) :
    Calls Try.prog 4 #[.slice A0 l0.length c0] w fun e w' => e = .returned (.bool r) ∧ Below w.heap.size w w' := by
  have HR0 := Aside0.mk hr0
  have HC0 := Aside0.mk hc0
  clear hr0 hc0
  have HB := Aside0.mk (Below.refl w.heap.size w)
  have H : (if (l0.length : Int) > 1048576 then (some true) else ((spec_DrawRestAll.f k l0).bind fun bt389 => ((impl_RestAll.f bt389.1 bt389.2).bind fun bt391 => ((spec_RestAll.f k bt389.1 bt389.2).bind fun bt393 => (if bt391.1.toList = bt393.1.toList then (laws_FnRestAll.j0 k bt389.1 bt389.2 bt391.1 bt391.2 (bt391.2 == bt393.2)) else (laws_FnRestAll.j0 k bt389.1 bt389.2 bt391.1 bt391.2 false)))))) = some r := h
  clear h
  by_cases c2 : (l0.length : Int) > 1048576
  · rw [if_pos c2] at H
    have c2b0 : decide (1048576 < (l0.length : Int)) = true := decide_eq_true c2
    have c2b1 : decide (1048576 < l0.length) = true := decide_eq_true (by omega)
    clear c2
    obtain rfl := Option.some.inj H
    go_enter Try.func4, Try.ntmps4
    go_wp2
    go_ret
    exact ⟨by first | rfl | (simp [errW_none, errW_some] <;> rfl) | (simp [*, errW_none, errW_some] <;> rfl) | (simp [errW_none, errW_some]; exact ⟨rfl, rfl⟩), by repeat (first | (with_reducible first | exact HB.out | apply below_alloc | apply pw_below_drewN | apply below_drew1) | exact HB.out)⟩
  · rw [if_neg c2] at H
    have c2b0 : decide (1048576 < (l0.length : Int)) = false := decide_eq_false c2
    have c2b1 : decide (1048576 < l0.length) = false := decide_eq_false (by omega)
    clear c2
    replace H := Option.bind_eq_some_iff.mp H
    obtain ⟨⟨t389, t390⟩, A30, H⟩ := H
    replace H : ((impl_RestAll.f t389 t390).bind fun bt391 => ((spec_RestAll.f k t389 t390).bind fun bt393 => (if bt391.1.toList = bt393.1.toList then (laws_FnRestAll.j0 k t389 t390 bt391.1 bt391.2 (bt391.2 == bt393.2)) else (laws_FnRestAll.j0 k t389 t390 bt391.1 bt391.2 false)))) = some r := H
    have A3 := Aside0.mk A30
    clear A30
    replace H := Option.bind_eq_some_iff.mp H
    obtain ⟨⟨t391, t392⟩, A40, H⟩ := H
    replace H : ((spec_RestAll.f k t389 t390).bind fun bt393 => (if t391.toList = bt393.1.toList then (laws_FnRestAll.j0 k t389 t390 t391 t392 (t392 == bt393.2)) else (laws_FnRestAll.j0 k t389 t390 t391 t392 false))) = some r := H
    have A4 := Aside0.mk A40
    clear A40
    replace H := Option.bind_eq_some_iff.mp H
    obtain ⟨⟨t393, t394⟩, A50, H⟩ := H
    replace H : (if t391.toList = t393.toList then (laws_FnRestAll.j0 k t389 t390 t391 t392 (t392 == t394)) else (laws_FnRestAll.j0 k t389 t390 t391 t392 false)) = some r := H
    have A5 := Aside0.mk A50
    clear A50
    have HC6 := Aside0.mk H
    clear H
    go_enter Try.func4, Try.ntmps4
    go_upto_region 6 with (first | ((with_reducible refine gate_callee (f := 12) rfl ?_); refine goesL_ (some 18) rfl rfl Try.func12 (by kernel_rfl) rfl #[.slice A0 l0.length c0] rfl (by (try simp only [List.map_toArray, List.map_cons, List.map_nil]); first | done | rfl | (simp only [List.length_drop, List.length_take]; rfl)) ?_; (with_reducible refine (spec_DrawRestAll.calls k _ _ l0 t389 t390 _ ?side1 ?side2 A3.out).mono ?_); (case side1 => repeat (first | exact HR0.out | (with_reducible refine Kd.C_alloc ?_ _) | (with_reducible refine Kd.C_drewN ?_ _) | (with_reducible refine Kd.C_drew ?_))); (case side2 => exact HC0.out); rintro e w7 ⟨rfl, hb⟩; refine ⟨_, rfl, ?_⟩; have n0_ := Aside0.mk (below_step (by repeat (first | (with_reducible first | exact HB.out | apply below_alloc | apply pw_below_drewN | apply below_drew1) | exact HB.out)) hb); clear HB; have HB := n0_; clear n0_; (try clear hb); (try clear hb2); (try clear hk); (try clear hi)) | ((with_reducible refine gate_callee (f := 13) rfl ?_); refine goesL_ (some 24) rfl rfl Try.func13 (by kernel_rfl) rfl #[.string t389, .string t390] rfl (by (try simp only [List.map_toArray, List.map_cons, List.map_nil]); first | done | rfl | (simp only [List.length_drop, List.length_take]; rfl)) ?_; (with_reducible refine (impl_RestAll.calls t389 t390 t391 t392 _ A4.out).mono ?_); rintro e w8 ⟨rfl, hb⟩; refine ⟨_, rfl, ?_⟩; have n0_ := Aside0.mk (below_step (by repeat (first | (with_reducible first | exact HB.out | apply below_alloc | apply pw_below_drewN | apply below_drew1) | exact HB.out)) hb); clear HB; have HB := n0_; clear n0_; (try clear hb); (try clear hb2); (try clear hk); (try clear hi)) | ((with_reducible refine gate_callee (f := 14) rfl ?_); refine goesL_ (some 30) rfl rfl Try.func14 (by kernel_rfl) rfl #[.string t389, .string t390] rfl (by (try simp only [List.map_toArray, List.map_cons, List.map_nil]); first | done | rfl | (simp only [List.length_drop, List.length_take]; rfl)) ?_; (with_reducible refine (spec_RestAll.calls k t389 t390 t393 t394 _ A5.out).mono ?_); rintro e w9 ⟨rfl, hb⟩; refine ⟨_, rfl, ?_⟩; have n0_ := Aside0.mk (below_step (by repeat (first | (with_reducible first | exact HB.out | apply below_alloc | apply pw_below_drewN | apply below_drew1) | exact HB.out)) hb); clear HB; have HB := n0_; clear n0_; (try clear hb); (try clear hb2); (try clear hk); (try clear hi)))
    (try simp only [Act.put, List.setIfInBounds_toArray, List.set_cons_zero, List.set_cons_succ])
    go_cut [9] (fun v9 wc => ∃ (kq : Nat) (x9_5 : Bool), v9 = .bool x9_5 ∧ Aside0 (laws_FnRestAll.j0 kq t389 t390 t391 t392 x9_5 = some r) ∧ Aside0 (kq ≤ k) ∧ Aside0 (Below w.heap.size w wc))
    case first =>
      have H := HC6.out
      clear HC6
      by_cases c10 : t391.toList = t393.toList
      · rw [if_pos c10] at H
        have c10b0 : (t391.toList == t393.toList) = true := beq_iff_eq.mpr c10
        have c10b1 : (t391.toList != t393.toList) = false := bne_eq_false_iff_eq.mpr c10
        clear c10
        (first | rw [c10b0] | (simp only [i64_w, i32_w]; rw [c10b0]) | skip)
        have H' := Aside0.mk H
        clear H
        go_wp2
        go_meet
        case rel => exact ⟨_, ((t392 == t394)), (by first | rfl | (simp; done) | (simp [*]; done) | (simp [Int.tmod_eq_emod_of_nonneg]; done)), H', ⟨by first | omega | exact Nat.le_refl _⟩, ⟨by repeat (first | (with_reducible first | exact HB.out | apply below_alloc | apply pw_below_drewN | apply below_drew1) | exact HB.out)⟩⟩
      · rw [if_neg c10] at H
        have c10b0 : (t391.toList == t393.toList) = false := beq_eq_false_iff_ne.mpr c10
        have c10b1 : (t391.toList != t393.toList) = true := bne_iff_ne.mpr c10
        (first | rw [c10b0] | (simp only [i64_w, i32_w]; rw [c10b0]) | skip)
        have H' := Aside0.mk H
        clear H
        go_wp2
        go_meet
        case rel => exact ⟨_, (false), (by first | rfl | (simp; done) | (simp [*]; done) | (simp [Int.tmod_eq_emod_of_nonneg]; done)), H', ⟨by first | omega | exact Nat.le_refl _⟩, ⟨by repeat (first | (with_reducible first | exact HB.out | apply below_alloc | apply pw_below_drewN | apply below_drew1) | exact HB.out)⟩⟩
    case rest =>
      clear HC6
      try clear c1
      try clear c2
      try clear c2b0
      try clear c2b1
      try clear p2
      try clear c4
      try clear c10
      try clear c10b0
      try clear c10b1
      obtain ⟨kq, x9_5, rfl, HA, HJ5, HB⟩ := hcut
      cases kq with
      | zero => exact absurd HA.out (by simp [laws_FnRestAll.j0])
      | succ kj5 =>
        have H := HA.out
        clear HA
        simp only [laws_FnRestAll.j0] at H
        have HC11 := Aside0.mk H
        clear H
        go_upto_region 7 with (fail)
        go_cut [46] (fun v46 wc => ∃ (kq : Nat) (x46_10 : Bool), v46 = .bool x46_10 ∧ Aside0 (laws_FnRestAll.j1 kq t389 t390 t391 x9_5 x46_10 = some r) ∧ Aside0 (kq ≤ kj5) ∧ Aside0 (Below w.heap.size w wc))
        case first =>
          have H := HC11.out
          clear HC11
          by_cases c12 : x9_5 = true
          · subst c12
            have H1 : (laws_FnRestAll.j1 kj5 t389 t390 t391 true (!t392)) = some r := by rw [if_pos rfl] at H; exact H
            clear H
            have H := H1
            clear H1
            have H' := Aside0.mk H
            clear H
            go_wp2
            go_meet
            case rel => exact ⟨_, (!t392), (by first | rfl | (simp; done) | (simp [*]; done) | (simp [Int.tmod_eq_emod_of_nonneg]; done)), H', ⟨by have := HJ5.out; first | omega | exact Nat.le_refl _⟩, ⟨by repeat (first | (with_reducible first | exact HB.out | apply below_alloc | apply pw_below_drewN | apply below_drew1) | exact HB.out)⟩⟩
          · replace c12 := Bool.eq_false_iff.mpr c12
            subst c12
            have H1 : (laws_FnRestAll.j1 kj5 t389 t390 t391 false true) = some r := by rw [if_neg (show ¬ (false = true) by decide)] at H; exact H
            clear H
            have H := H1
            clear H1
            have H' := Aside0.mk H
            clear H
            go_wp2
            go_meet
            case rel => exact ⟨_, (true), (by first | rfl | (simp; done) | (simp [*]; done) | (simp [Int.tmod_eq_emod_of_nonneg]; done)), H', ⟨by have := HJ5.out; first | omega | exact Nat.le_refl _⟩, ⟨by repeat (first | (with_reducible first | exact HB.out | apply below_alloc | apply pw_below_drewN | apply below_drew1) | exact HB.out)⟩⟩
        case rest =>
          clear HC11
          try clear c1
          try clear c2
          try clear c2b0
          try clear c2b1
          try clear p2
          try clear c4
          try clear c10
          try clear c10b0
          try clear c10b1
          try clear c12
          try clear p2
          obtain ⟨kq, x46_10, rfl, HA, HJ10, HB⟩ := hcut
          cases kq with
          | zero => exact absurd HA.out (by simp [laws_FnRestAll.j1])
          | succ kj10 =>
            have H := HA.out
            clear HA
            simp only [laws_FnRestAll.j1] at H
            by_cases c13 : x46_10 = true
            · subst c13
              have H1 : (some x9_5) = some r := by rw [if_pos rfl] at H; exact H
              clear H
              have H := H1
              clear H1
              obtain rfl := Option.some.inj H
              go_wp2
              go_ret
              exact ⟨by first | rfl | (simp [errW_none, errW_some] <;> rfl) | (simp [*, errW_none, errW_some] <;> rfl) | (simp [errW_none, errW_some]; exact ⟨rfl, rfl⟩), by repeat (first | (with_reducible first | exact HB.out | apply below_alloc | apply pw_below_drewN | apply below_drew1) | exact HB.out)⟩
            · replace c13 := Bool.eq_false_iff.mpr c13
              subst c13
              have H1 : (laws_FnRestAll.l0 kj10 t389 t390 t391 0) = some r := by rw [if_neg (show ¬ (false = true) by decide)] at H; exact H
              clear H
              have H := H1
              clear H1
              have H' := Aside0.mk H
              clear H
              go_wp2
              go_loopg [10] kj10 (fun kq v10 w' => ∃ (x10_3 : Int), v10 = .int .i64 x10_3 ∧ Aside0 (laws_FnRestAll.l0 kq t389 t390 t391 x10_3 = some r) ∧ Aside0 (kq ≤ kj10) ∧ Aside0 (Below w.heap.size w w'))
              case atStart => exact ⟨(0), (by first | rfl | (simp; done) | (simp [*]; done) | (simp [Int.tmod_eq_emod_of_nonneg]; done)), H', ⟨Nat.le_refl _⟩, ⟨by repeat (first | (with_reducible first | exact HB.out | apply below_alloc | apply pw_below_drewN | apply below_drew1) | exact HB.out)⟩⟩
              case round =>
                clear H'
                try clear c1
                try clear c2
                try clear c2b0
                try clear c2b1
                try clear p2
                try clear c4
                try clear c10
                try clear c10b0
                try clear c10b1
                try clear c12
                try clear c13
                try clear p2
                obtain ⟨x10_3, rfl, HA, HK3, HB⟩ := hrel
                cases gk with
                | zero => exact absurd HA.out (by simp [laws_FnRestAll.l0])
                | succ k3 =>
                  have H := HA.out
                  clear HA
                  simp only [laws_FnRestAll.l0] at H
                  by_cases c14 : x10_3 ≤ 40
                  · rw [if_pos c14] at H
                    have c14b0 : decide (x10_3 ≤ 40) = true := decide_eq_true c14
                    clear c14
                    have H' := Aside0.mk H
                    clear H
                    go_wp2
                    go_loopg [11, 12] k3 (fun kq v11 v12 w' => ∃ (x11_4 : Bool) (x12_4 : Int), v11 = .bool x11_4 ∧ v12 = .int .i64 x12_4 ∧ Aside0 (laws_FnRestAll.l1 kq t389 t390 t391 x10_3 x11_4 x12_4 = some r) ∧ Aside0 (kq ≤ k3) ∧ Aside0 (Below w.heap.size w w'))
                    case atStart => exact ⟨(true), (0), (by first | rfl | (simp; done) | (simp [*]; done) | (simp [Int.tmod_eq_emod_of_nonneg]; done)), (by first | rfl | (simp; done) | (simp [*]; done) | (simp [Int.tmod_eq_emod_of_nonneg]; done)), H', ⟨Nat.le_refl _⟩, ⟨by repeat (first | (with_reducible first | exact HB.out | apply below_alloc | apply pw_below_drewN | apply below_drew1) | exact HB.out)⟩⟩
                    case round =>
                      clear H'
                      try clear c1
                      try clear c2
                      try clear c2b0
                      try clear c2b1
                      try clear p2
                      try clear c4
                      try clear c10
                      try clear c10b0
                      try clear c10b1
                      try clear c12
                      try clear c13
                      try clear c14
                      try clear c14b0
                      try clear p2
                      obtain ⟨x11_4, x12_4, rfl, rfl, HA, HK4, HB⟩ := hrel
                      cases gk with
                      | zero => exact absurd HA.out (by simp [laws_FnRestAll.l1])
                      | succ k4 =>
                        have H := HA.out
                        clear HA
                        simp only [laws_FnRestAll.l1] at H
                        by_cases c15 : x12_4 ≤ 150
                        · rw [if_pos c15] at H
                          have c15b0 : decide (x12_4 ≤ 150) = true := decide_eq_true c15
                          clear c15
                          by_cases c16 : x11_4 = true
                          · subst c16
                            have H1 : ((impl_SetHas.f k4 t390 x12_4).bind fun t395 => (if t395 = true then ((impl_SetHas.f k4 t389 (wrap64 (x10_3 + x12_4))).bind fun t396 => (laws_FnRestAll.l1 k4 t389 t390 t391 x10_3 t396 (wrap64 (x12_4 + 1)))) else (laws_FnRestAll.l1 k4 t389 t390 t391 x10_3 true (wrap64 (x12_4 + 1))))) = some r := by rw [if_pos rfl] at H; exact H
                            clear H
                            have H := H1
                            clear H1
                            replace H := Option.bind_eq_some_iff.mp H
                            obtain ⟨t395, A170, H⟩ := H
                            replace H : (if t395 = true then ((impl_SetHas.f k4 t389 (wrap64 (x10_3 + x12_4))).bind fun t396 => (laws_FnRestAll.l1 k4 t389 t390 t391 x10_3 t396 (wrap64 (x12_4 + 1)))) else (laws_FnRestAll.l1 k4 t389 t390 t391 x10_3 true (wrap64 (x12_4 + 1)))) = some r := H
                            have A17 := Aside0.mk A170
                            clear A170
                            by_cases c18 : t395 = true
                            · subst c18
                              have H1 : ((impl_SetHas.f k4 t389 (wrap64 (x10_3 + x12_4))).bind fun t396 => (laws_FnRestAll.l1 k4 t389 t390 t391 x10_3 t396 (wrap64 (x12_4 + 1)))) = some r := by rw [if_pos rfl] at H; exact H
                              clear H
                              have H := H1
                              clear H1
                              replace H := Option.bind_eq_some_iff.mp H
                              obtain ⟨t396, A190, H⟩ := H
                              replace H : (laws_FnRestAll.l1 k4 t389 t390 t391 x10_3 t396 (wrap64 (x12_4 + 1))) = some r := H
                              have A19 := Aside0.mk A190
                              clear A190
                              have H' := Aside0.mk H
                              clear H
                              go_wp2_with (first | (go_at_call 11; (with_reducible refine (impl_SetHas.calls k4 t390 x12_4 true _ A17.out).mono ?_); rintro e w20 ⟨rfl, hb⟩; have n0_ := Aside0.mk (below_step (by repeat (first | (with_reducible first | exact HB.out | apply below_alloc | apply pw_below_drewN | apply below_drew1) | exact HB.out)) hb); clear HB; have HB := n0_; clear n0_; (try clear hb); (try clear hb2); (try clear hk); (try clear hi)) | (go_at_call 11; (with_reducible refine (impl_SetHas.calls k4 t389 (wrap64 (x10_3 + x12_4)) t396 _ A19.out).mono ?_); rintro e w21 ⟨rfl, hb⟩; have n0_ := Aside0.mk (below_step (by repeat (first | (with_reducible first | exact HB.out | apply below_alloc | apply pw_below_drewN | apply below_drew1) | exact HB.out)) hb); clear HB; have HB := n0_; clear n0_; (try clear hb); (try clear hb2); (try clear hk); (try clear hi)))
                              go_roundg k4
                              case measure => have := HJ5.out; have := HJ10.out; have := HK3.out; have := HK4.out; omega
                              case rel => exact ⟨(t396), (wrap64 (x12_4 + 1)), (by first | rfl | (simp; done) | (simp [*]; done) | (simp [Int.tmod_eq_emod_of_nonneg]; done)), (by first | rfl | (simp; done) | (simp [*]; done) | (simp [Int.tmod_eq_emod_of_nonneg]; done)), H', ⟨by have := HJ5.out; have := HJ10.out; have := HK3.out; have := HK4.out; omega⟩, ⟨by repeat (first | (with_reducible first | exact HB.out | apply below_alloc | apply pw_below_drewN | apply below_drew1) | exact HB.out)⟩⟩
                            · replace c18 := Bool.eq_false_iff.mpr c18
                              subst c18
                              have H1 : (laws_FnRestAll.l1 k4 t389 t390 t391 x10_3 true (wrap64 (x12_4 + 1))) = some r := by rw [if_neg (show ¬ (false = true) by decide)] at H; exact H
                              clear H
                              have H := H1
                              clear H1
                              have H' := Aside0.mk H
                              clear H
                              go_wp2_with (first | (go_at_call 11; (with_reducible refine (impl_SetHas.calls k4 t390 x12_4 false _ A17.out).mono ?_); rintro e w22 ⟨rfl, hb⟩; have n0_ := Aside0.mk (below_step (by repeat (first | (with_reducible first | exact HB.out | apply below_alloc | apply pw_below_drewN | apply below_drew1) | exact HB.out)) hb); clear HB; have HB := n0_; clear n0_; (try clear hb); (try clear hb2); (try clear hk); (try clear hi)))
                              go_roundg k4
                              case measure => have := HJ5.out; have := HJ10.out; have := HK3.out; have := HK4.out; omega
                              case rel => exact ⟨(true), (wrap64 (x12_4 + 1)), (by first | rfl | (simp; done) | (simp [*]; done) | (simp [Int.tmod_eq_emod_of_nonneg]; done)), (by first | rfl | (simp; done) | (simp [*]; done) | (simp [Int.tmod_eq_emod_of_nonneg]; done)), H', ⟨by have := HJ5.out; have := HJ10.out; have := HK3.out; have := HK4.out; omega⟩, ⟨by repeat (first | (with_reducible first | exact HB.out | apply below_alloc | apply pw_below_drewN | apply below_drew1) | exact HB.out)⟩⟩
                          · replace c16 := Bool.eq_false_iff.mpr c16
                            subst c16
                            have H1 : (laws_FnRestAll.l1 k4 t389 t390 t391 x10_3 false (wrap64 (x12_4 + 1))) = some r := by rw [if_neg (show ¬ (false = true) by decide)] at H; exact H
                            clear H
                            have H := H1
                            clear H1
                            have H' := Aside0.mk H
                            clear H
                            go_wp2
                            go_roundg k4
                            case measure => have := HJ5.out; have := HJ10.out; have := HK3.out; have := HK4.out; omega
                            case rel => exact ⟨(false), (wrap64 (x12_4 + 1)), (by first | rfl | (simp; done) | (simp [*]; done) | (simp [Int.tmod_eq_emod_of_nonneg]; done)), (by first | rfl | (simp; done) | (simp [*]; done) | (simp [Int.tmod_eq_emod_of_nonneg]; done)), H', ⟨by have := HJ5.out; have := HJ10.out; have := HK3.out; have := HK4.out; omega⟩, ⟨by repeat (first | (with_reducible first | exact HB.out | apply below_alloc | apply pw_below_drewN | apply below_drew1) | exact HB.out)⟩⟩
                        · rw [if_neg c15] at H
                          have c15b0 : decide (x12_4 ≤ 150) = false := decide_eq_false c15
                          clear c15
                          replace H := Option.bind_eq_some_iff.mp H
                          obtain ⟨t397, A230, H⟩ := H
                          replace H : (if (t397 != x11_4) = true then (some false) else (laws_FnRestAll.l0 k4 t389 t390 t391 (wrap64 (x10_3 + 1)))) = some r := H
                          have A23 := Aside0.mk A230
                          clear A230
                          by_cases c24 : (t397 != x11_4) = true
                          · rw [if_pos c24] at H
                            have c24b0 : (t397 != x11_4) = true := c24
                            (try (have c24b1 : decide (t397 = x11_4) = false := by simpa using c24))
                            (try (have c24b2 : (t397 == x11_4) = false := by simpa using c24))
                            (try (have c24b3 : ¬ (t397 = x11_4) := by simpa using c24))
                            clear c24
                            obtain rfl := Option.some.inj H
                            go_wp2_with (first | ((with_reducible refine gate_callee (f := 11) rfl ?_); refine goesL_ (some 72) rfl rfl Try.func11 (by kernel_rfl) rfl #[.string t391, .int .i64 x10_3] rfl (by (try simp only [List.map_toArray, List.map_cons, List.map_nil]); first | done | rfl | (simp only [List.length_drop, List.length_take]; rfl)) ?_; (with_reducible refine (impl_SetHas.calls k4 t391 x10_3 t397 _ A23.out).mono ?_); rintro e w25 ⟨rfl, hb⟩; refine ⟨_, rfl, ?_⟩; have n0_ := Aside0.mk (below_step (by repeat (first | (with_reducible first | exact HB.out | apply below_alloc | apply pw_below_drewN | apply below_drew1) | exact HB.out)) hb); clear HB; have HB := n0_; clear n0_; (try clear hb); (try clear hb2); (try clear hk); (try clear hi)))
                            go_ret
                            exact ⟨by first | rfl | (simp [errW_none, errW_some] <;> rfl) | (simp [*, errW_none, errW_some] <;> rfl) | (simp [errW_none, errW_some]; exact ⟨rfl, rfl⟩), by repeat (first | (with_reducible first | exact HB.out | apply below_alloc | apply pw_below_drewN | apply below_drew1) | exact HB.out)⟩
                          · rw [if_neg c24] at H
                            have c24b0 : (t397 != x11_4) = false := by simpa using c24
                            (try (have c24b1 : decide (t397 = x11_4) = true := by simpa using c24))
                            (try (have c24b2 : (t397 == x11_4) = true := by simpa using c24))
                            clear c24
                            have H' := Aside0.mk H
                            clear H
                            go_wp2_with (first | ((with_reducible refine gate_callee (f := 11) rfl ?_); refine goesL_ (some 72) rfl rfl Try.func11 (by kernel_rfl) rfl #[.string t391, .int .i64 x10_3] rfl (by (try simp only [List.map_toArray, List.map_cons, List.map_nil]); first | done | rfl | (simp only [List.length_drop, List.length_take]; rfl)) ?_; (with_reducible refine (impl_SetHas.calls k4 t391 x10_3 t397 _ A23.out).mono ?_); rintro e w26 ⟨rfl, hb⟩; refine ⟨_, rfl, ?_⟩; have n0_ := Aside0.mk (below_step (by repeat (first | (with_reducible first | exact HB.out | apply below_alloc | apply pw_below_drewN | apply below_drew1) | exact HB.out)) hb); clear HB; have HB := n0_; clear n0_; (try clear hb); (try clear hb2); (try clear hk); (try clear hi)))
                            go_roundg k4
                            case measure => have := HJ5.out; have := HJ10.out; have := HK3.out; have := HK4.out; omega
                            case rel => exact ⟨(wrap64 (x10_3 + 1)), (by first | rfl | (simp; done) | (simp [*]; done) | (simp [Int.tmod_eq_emod_of_nonneg]; done)), H', ⟨by have := HJ5.out; have := HJ10.out; have := HK3.out; have := HK4.out; omega⟩, ⟨by repeat (first | (with_reducible first | exact HB.out | apply below_alloc | apply pw_below_drewN | apply below_drew1) | exact HB.out)⟩⟩
                  · rw [if_neg c14] at H
                    have c14b0 : decide (x10_3 ≤ 40) = false := decide_eq_false c14
                    clear c14
                    obtain rfl := Option.some.inj H
                    go_wp2
                    go_ret
                    exact ⟨by first | rfl | (simp [errW_none, errW_some] <;> rfl) | (simp [*, errW_none, errW_some] <;> rfl) | (simp [errW_none, errW_some]; exact ⟨rfl, rfl⟩), by repeat (first | (with_reducible first | exact HB.out | apply below_alloc | apply pw_below_drewN | apply below_drew1) | exact HB.out)⟩

/-- THE ONE PURE STATEMENT of laws_FnRestAll: yours. -/
noncomputable def laws_FnRestAll.Pure : Prop := ∀ (l0 : List Int), l0.length ≤ maxLen → l0.length * 1 ≤ 140737488351232 → (∀ x ∈ l0, (Lit.int .u8 x).wf = true) → ∃ k, laws_FnRestAll.f k l0 = some true
theorem laws_FnRestAll.walk (P : laws_FnRestAll.Pure) (a0 : Option Addr) (len0 cap0 : Nat) (z0 : List Int) (w : World) (w0 : (a0 = none ∧ len0 = 0 ∧ cap0 = 0 ∧ z0 = []) ∨ ∃ x, a0 = some x ∧ len0 ≤ cap0 ∧ cap0 ≤ maxLen ∧ z0.length = cap0 ∧ (∀ i, i < z0.length → w.cell? (x.add i) = some (.int .u8 (z0.getD i 0))) ∧ ∀ n ∈ z0, (Lit.int .u8 n).wf = true) (y0 : len0 * 1 ≤ 140737488351232) :
    Calls Try.prog 4 #[.slice a0 len0 cap0] w fun e w' => e = .returned (.bool true) ∧ Below w.heap.size w w' := by
  obtain ⟨l0, rfl, hr0, hm0, hw0, hc0⟩ := ReadsInt.ofRowC w0
  obtain ⟨k, h⟩ := P l0 hm0 y0 hw0
  refine (laws_FnRestAll.calls k _ _ l0 true w (Kd.C_of_reads (d := (0 : Int)) (h1 := fun _ => rfl) hr0) hc0 h).mono ?_
  rintro e w' ⟨rfl, hd⟩
  exact ⟨rfl, hd⟩

end Go.Proofs.Ytneadgionjlicaa.P

-- spec.RestAll.
namespace Go.Proofs.Ytneadgionjlicaa.P
open Go.RowKit Go.Proofs.YtneadgionjlicaaW.PrintWords Go.Proofs.YtneadgionjlicaaW.PrintLast Go.Proofs.YtneadgionjlicaaW.PrintMore
set_option linter.unusedVariables false
set_option linter.unusedSimpArgs false

theorem srestAll_f (s t : ByteArray) (hs : s.size ≤ 70368744177664) (ht : t.size ≤ 70368744177664) : Ev (fun k => spec_RestAll.f k s t) (rsr (chrs s) (chrs t) true) :=
  Ev.congr (fun k => rfl) (Ev.bind (quot_f s t hs ht true) (Ev.now _))
end Go.Proofs.Ytneadgionjlicaa.P

-- For every code the law FnRestAll holds.
namespace Go.Proofs.Ytneadgionjlicaa.P
open Go.RowKit Go.Proofs.YtneadgionjlicaaW.PrintWords Go.Proofs.YtneadgionjlicaaW.PrintLast Go.Proofs.YtneadgionjlicaaW.PrintMore
set_option linter.unusedVariables false
set_option linter.unusedSimpArgs false

theorem drawRestAll_f (l : List Int) (h : ∀ x ∈ l, (Lit.int .u8 x).wf = true) : ∃ (s t : ByteArray), Few s ∧ Few t ∧ Ev (fun k => spec_DrawRestAll.f k l) (s, t) := by
  obtain ⟨s, q, hf, hq, K0, h0⟩ := set91_f (code_of h) 0 (by omega)
  dsimp only at h0
  have g0 : ∀ k, K0 ≤ k → spec_l91Set.f k (l.take 2000) 0 = some (s, (q : Int)) := h0
  obtain ⟨t, q2, hf2, hq2, K1, h1⟩ := set91_f (code_of h) q (by omega)
  dsimp only at h1
  have g1 : ∀ k, K1 ≤ k → spec_l91Set.f k (l.take 2000) (q : Int) = some (t, (q2 : Int)) := h1
  refine ⟨s, t, hf, hf2, K0 + K1, fun k hk => ?_⟩
  try dsimp only
  unfold spec_DrawRestAll.f
  rw [open_f, Option.bind_some, g0 k (by omega), Option.bind_some, g1 k (by omega), Option.bind_some]
theorem lawRestAll_l1 (s t x0 : ByteArray) (hf : Few s) (hf2 : Few t) {a b c d : List Bool} (hp : parse (chrs s) = some (a, b)) (hp2 : parse (chrs t) = some (c, d)) (hx : x0.size ≤ 122) (n : Nat) (hn : n ≤ 40) (hq : setf (chrs x0) = qs (setf (chrs s)) (setf (chrs t)) true) (h3 : Ev (fun k => laws_FnRestAll.l0 k s t x0 ((n + 1 : Nat) : Int)) true) : ∀ (e i : Nat), i ≤ 151 → 151 - i = e →
    Ev (fun k => laws_FnRestAll.l1 k s t x0 n (qU (setf (chrs s)) (setf (chrs t)) true n i) i) true := by
  have hz := hf.size
  have hz2 := hf2.size
  have hs : s.size ≤ 70368744177664 := by omega
  have ht : t.size ≤ 70368744177664 := by omega
  intro e
  induction e with
  | zero =>
    intro i hi hd
    have e : i = 151 := by omega
    subst e
    obtain ⟨K3, h3⟩ := h3
    dsimp only at h3
    obtain ⟨K1, h1⟩ := isetHas_f x0 (by omega) n (by omega)
    dsimp only at h1
    rw [hq] at h1
    rw [qU_end hf hf2 hp hp2]
    refine ⟨K1 + K3 + 1, fun k hk => ?_⟩
    obtain ⟨k, rfl, hk2⟩ := down1 hk
    simp only [laws_FnRestAll.l1]
    rw [if_neg (by omega), h1 k (by omega), Option.bind_some, if_neg (bne_no _), wsucc (by omega)]
    exact h3 k (by omega)
  | succ e ih =>
    intro i hi hd
    obtain ⟨K2, h2⟩ := ih (i + 1) (by omega) (by omega)
    dsimp only at h2
    obtain ⟨K4, h4⟩ := isetHas_f t ht i (by omega)
    dsimp only at h4
    obtain ⟨K5, h5⟩ := isetHas_f s hs (n + i) (by omega)
    dsimp only at h5
    cases hu : qU (setf (chrs s)) (setf (chrs t)) true n i with
    | false =>
      rw [qU_old (al := true) hu] at h2
      refine ⟨K2 + 1, fun k hk => ?_⟩
      obtain ⟨k, rfl, hk2⟩ := down1 hk
      simp only [laws_FnRestAll.l1]
      rw [if_pos (by omega), if_neg (by decide), wsucc (by omega)]
      exact h2 k hk2
    | true =>
      rw [qU_new (al := true) hu] at h2
      refine ⟨K2 + K4 + K5 + 1, fun k hk => ?_⟩
      obtain ⟨k, rfl, hk2⟩ := down1 hk
      simp only [laws_FnRestAll.l1]
      rw [if_pos (by omega), if_pos (by trivial), h4 k (by omega), Option.bind_some]
      cases hv : setf (chrs t) i with
      | true =>
        rw [hv, if_pos rfl] at h2
        rw [if_pos (by trivial), wadd (by omega), h5 k (by omega), Option.bind_some, wsucc (by omega)]
        exact h2 k (by omega)
      | false =>
        rw [hv, if_neg (by decide)] at h2
        rw [if_neg (by decide), wsucc (by omega)]
        exact h2 k (by omega)
theorem lawRestAll_l0 (s t x0 : ByteArray) (hf : Few s) (hf2 : Few t) {a b c d : List Bool} (hp : parse (chrs s) = some (a, b)) (hp2 : parse (chrs t) = some (c, d)) (hx : x0.size ≤ 122) (hq : setf (chrs x0) = qs (setf (chrs s)) (setf (chrs t)) true) : ∀ (e n : Nat), n ≤ 41 → 41 - n = e →
    Ev (fun k => laws_FnRestAll.l0 k s t x0 n) true := by
  intro e
  induction e with
  | zero =>
    intro n hn hd
    refine ⟨1, fun k hk => ?_⟩
    obtain ⟨k, rfl, hk2⟩ := down1 hk
    simp only [laws_FnRestAll.l0]
    rw [if_neg (by omega)]
  | succ e ih =>
    intro n hn hd
    have hx1 := lawRestAll_l1 s t x0 hf hf2 hp hp2 hx n (by omega) hq (ih (n + 1) (by omega) (by omega)) _ 0 (Nat.zero_le _) rfl
    rw [qU_zero] at hx1
    obtain ⟨K2, h2⟩ := hx1
    dsimp only at h2
    refine ⟨K2 + 1, fun k hk => ?_⟩
    obtain ⟨k, rfl, hk2⟩ := down1 hk
    simp only [laws_FnRestAll.l0]
    rw [if_pos (by omega)]
    exact h2 k hk2
theorem lawRestAll_ev (l : List Int) (h : ∀ x ∈ l, (Lit.int .u8 x).wf = true) : Ev (fun k => laws_FnRestAll.f k l) true := by
  by_cases hl : (l.length : Int) > 1048576
  · exact ⟨0, fun k _ => by dsimp only; unfold laws_FnRestAll.f; rw [if_pos hl]⟩
  · obtain ⟨s, t, hf, hf2, K1, h1⟩ := drawRestAll_f l h
    dsimp only at h1
    have hz := hf.size
    have hs : s.size ≤ 70368744177664 := by omega
    have hz2 := hf2.size
    have ht : t.size ≤ 70368744177664 := by omega
    obtain ⟨K2, h2⟩ := srestAll_f s t hs ht
    dsimp only at h2
    have h3 := restAll_f s t hs ht
    have main : Ev (fun k => laws_FnRestAll.j0 k s t (rsr (chrs s) (chrs t) true).1 (rsr (chrs s) (chrs t) true).2 true) true := by
      cases h4 : (rsr (chrs s) (chrs t) true).2 with
      | false =>
        refine Ev.step (f := fun k => laws_FnRestAll.j1 k s t (rsr (chrs s) (chrs t) true).1 true true) (fun k => ?_) (Ev.step (f := fun k => some true) (fun k => ?_) (Ev.now _))
        · simp only [laws_FnRestAll.j0]; rfl
        · simp only [laws_FnRestAll.j1]; rfl
      | true =>
        obtain ⟨a, b, c, d, hp, hp2, he, hA⟩ := rsr_ok2 h4
        obtain ⟨p1, p2⟩ := parse_per hp
        have hper : Per (qs (setf (chrs s)) (setf (chrs t)) true) a.length b.length := by rw [setf_some hp]; exact qs_per p2 _ _
        rw [he]
        refine Ev.step (f := fun k => laws_FnRestAll.j1 k s t (txt (cn (qs (setf (chrs s)) (setf (chrs t)) true))).1 true false) (fun k => ?_) (Ev.step (fun k => ?_) (lawRestAll_l0 s t _ hf hf2 hp hp2 (txt_size _) (txt_setf p1 hper hA) _ 0 (by omega) rfl))
        · simp only [laws_FnRestAll.j0]; rfl
        · simp only [laws_FnRestAll.j1]; rfl
    obtain ⟨K4, h4⟩ := main
    dsimp only at h4
    refine ⟨K1 + K2 + K4, fun k hk => ?_⟩
    try dsimp only
    unfold laws_FnRestAll.f
    rw [if_neg hl, h1 k (by omega), Option.bind_some]
    try dsimp only
    rw [h3, Option.bind_some, h2 k (by omega), Option.bind_some, if_pos (by trivial), BEq.rfl]
    exact h4 k (by omega)
theorem lawRestAll_pure : laws_FnRestAll.Pure := fun l _ _ h => (lawRestAll_ev l h).rounds
end Go.Proofs.Ytneadgionjlicaa.P

-- For every code the law FnRestAll holds.
namespace Go.Proofs.Ytneadgionjlicaa.Pure
theorem FnRestAll : Go.Proofs.Ytneadgionjlicaa.P.laws_FnRestAll.Pure := Go.Proofs.Ytneadgionjlicaa.P.lawRestAll_pure
end Go.Proofs.Ytneadgionjlicaa.Pure
