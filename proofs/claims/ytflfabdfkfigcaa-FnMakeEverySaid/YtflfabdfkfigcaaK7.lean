/- What these laws reach, joined by a program of this session: contracts (written by that program over the kit's print, or by hand) and plain lemmas. -/
import Derived.Test.YtflfabdfkfigcaaK1
import Derived.Test.YtflfabdfkfigcaaK2
import Derived.Test.YtflfabdfkfigcaaK3
import Derived.Test.YtflfabdfkfigcaaK4
import Derived.Test.YtflfabdfkfigcaaK5
-- impl.MakeEvery: all n for which k n + r is in the set.
namespace Go.Proofs.Ytflfabdfkfigcaa.P
open Go.RowKit Go.Proofs.YtflfabdfkfigcaaW.PrintWords Go.Proofs.YtflfabdfkfigcaaW.PrintLast Go.Proofs.YtflfabdfkfigcaaW.PrintMore
set_option linter.unusedVariables false
set_option linter.unusedSimpArgs false

/-- Each k-th number from r on. -/
def evq (f : Nat → Bool) (k r : Nat) : Nat → Bool := fun n => f (k * n + r)
theorem evq_per {f : Nat → Bool} {m p : Nat} (h : Per f m p) {k : Nat} (hk : 1 ≤ k) (r : Nat) : Per (evq f k r) m p := fun n hn => by
  have h1 := h.mul k (k * n + r) (by have := Nat.mul_le_mul hk hn; omega)
  unfold evq
  rw [Nat.mul_add, show k * n + k * p + r = k * n + r + k * p by omega, h1]
/-- What impl.MakeEvery answers. -/
noncomputable def evr (s : List UInt8) (k r : Int) : ByteArray × Bool := if (parse s).isSome && (decide (1 ≤ k ∧ k ≤ 20) && decide (0 ≤ r ∧ r ≤ 100)) then txt (cn (evq (setf s) k.toNat r.toNat)) else (⟨#[]⟩, false)
noncomputable def impl_MakeEvery.f (s : ByteArray) (k r : Int) : Option (ByteArray × Bool) := if s.size ≤ 70368744177664 then some (evr (chrs s) k r) else none

theorem two_cells (w : World) (x y : Value) (t t' : TypeId) : ((w.alloc (.cells #[x] t)).alloc (.cells #[y] t')).cell? ⟨w.heap.size, 0, none⟩ = some x ∧ ((w.alloc (.cells #[x] t)).alloc (.cells #[y] t')).cell? ⟨w.heap.size + 1, 0, none⟩ = some y := by
  refine ⟨Lib.cell?_alloc_some _ (by simp), ?_⟩
  simp
set_option maxHeartbeats 8000000 in
set_option maxRecDepth 100000 in
theorem every_q_calls (t r : List Bool) (hr : r ≠ []) (hl : t.length ≤ 60 ∧ r.length ≤ 60) (A0 : Option Addr) (c0 : Nat) (A1 : Option Addr) (c1 n k a b b2 : Nat) (hn : n ≤ 10000) (hk : k ≤ 1000) (ha : a ≤ 1000) (W : World)
    (hC0 : Kd.C Kd.bool W A0 t.length t) (h0 : t.length ≤ c0) (hC1 : Kd.C Kd.bool W A1 r.length r) (h1 : r.length ≤ c1) (hb : W.cell? ⟨b, 0, none⟩ = some (.int .i64 (k : Int))) (hb2 : W.cell? ⟨b2, 0, none⟩ = some (.int .i64 (a : Int))) :
    Calls Try.prog 47 #[.agg #[.slice A0 t.length c0, .slice A1 r.length c1], .int .i64 n, .pointer (some ⟨b, 0, none⟩), .pointer (some ⟨b2, 0, none⟩)] W fun e w' => e = .returned (.bool (evq (hasB t r) k a n)) ∧ Below W.heap.size W w' := by
  have hm : k * n ≤ 1000 * 10000 := Nat.mul_le_mul hk hn
  have hs1 : IntKind.i64.wrap ((k : Int) * (n : Int)) = ((k * n : Nat) : Int) := by rw [IntKind.wrap_i64, ← Int.natCast_mul]; generalize k * n = x at *; omega
  have hs : IntKind.i64.wrap (((k * n : Nat) : Int) + (a : Int)) = ((k * n + a : Nat) : Int) := by rw [IntKind.wrap_i64]; generalize k * n = x at *; omega
  have HC := fun (o : Obj) => Aside0.mk (impl_set_has.calls A0 c0 t A1 c1 r ((k * n + a : Nat) : Int) (hasB t r (k * n + a)) (W.alloc o) (Kd.C_alloc hC0 o) h0 (Kd.C_alloc hC1 o) h1 (ihas_f t r hr (by omega) (k * n + a) (by omega)))
  have hc1 : ∀ o, (W.alloc o).cell? ⟨b, 0, none⟩ = some (.int .i64 (k : Int)) := fun o => Lib.cell?_alloc_some _ hb
  have hc2 : ∀ o, (W.alloc o).cell? ⟨b2, 0, none⟩ = some (.int .i64 (a : Int)) := fun o => Lib.cell?_alloc_some _ hb2
  have hu := Try.underlying44
  have HS := Aside0.mk hs
  obtain ⟨x, hx⟩ : ∃ x : Nat, k * n = x := ⟨_, rfl⟩
  obtain ⟨y, hy⟩ : ∃ y : Nat, k * n + a = y := ⟨_, rfl⟩
  have hv : evq (hasB t r) k a n = hasB t r y := by rw [← hy]; rfl
  rw [hv]
  rw [hy] at hs HC
  rw [hx] at hs1 hs
  clear hC0 hC1 h0 h1 hl hr hb hb2 hv hx hy hm HS
  go_enter Try.func47, Try.ntmps47
  go_wp2_with (go_at_call 37; refine (HC _).out.mono ?_; rintro e w' ⟨rfl, hb⟩)
  go_ret
  exact ⟨rfl, below_step (below_alloc (Below.refl _ _) _) hb⟩

set_option maxHeartbeats 8000000 in
set_option maxRecDepth 100000 in
theorem impl_MakeEvery.calls (a0 : ByteArray) (a1 a2 : Int) (r1 : ByteArray) (r2 : Bool) (w : World) (h : impl_MakeEvery.f a0 a1 a2 = some (r1, r2)) :
    Calls Try.prog 19 #[.string a0, .int .i64 a1, .int .i64 a2] w fun e w' => e = .returned (.tuple #[.string r1, .bool r2]) ∧ Below w.heap.size w w' := by
  unfold impl_MakeEvery.f at h
  split at h
  · rename_i hs
    simp only [Option.some.injEq] at h
    have hin1 := in_f a1 1 20
    have hin2 := in_f a2 0 100
    obtain ⟨bm1, hbm1⟩ : ∃ bm, decide (1 ≤ a1 ∧ a1 ≤ 20) = bm := ⟨_, rfl⟩
    obtain ⟨bm2, hbm2⟩ : ∃ bm, decide (0 ≤ a2 ∧ a2 ≤ 100) = bm := ⟨_, rfl⟩
    have eg : ∀ args w, (callFunc 47 args).run Try.prog w = .ok (.enter 47 args) w := enters_of Try.func47 (by kernel_rfl) rfl
    have hx : ∀ (w1 : World) (b b2 : Nat), w1.cell? ⟨b, 0, none⟩ = some (.int .i64 a1) → w1.cell? ⟨b2, 0, none⟩ = some (.int .i64 a2) → b < w1.heap.size → b2 < w1.heap.size → Calls Try.prog 34 #[.string a0, .bool (bm1 && bm2), .func (.func 47) #[] #[.pointer (some ⟨b, 0, none⟩), .pointer (some ⟨b2, 0, none⟩)]] w1 fun e w' => e = .returned (.tuple #[.string r1, .bool r2]) ∧ Below w1.heap.size w1 w' := by
      intro w1 b b2 hc hc2 hlt hlt2
      have := single_calls a0 hs (bm1 && bm2) 47 #[.pointer (some ⟨b, 0, none⟩), .pointer (some ⟨b2, 0, none⟩)] (evq (setf (chrs a0)) a1.toNat a2.toNat) w1 eg
        (fun hm t r hp => by
          rw [← hbm1] at hm
          have hm := of_decide_eq_true (Bool.and_eq_true_iff.1 hm).1
          rw [setf_some hp]; exact evq_per (hasB_per t r) (by omega) _)
        (fun hm t r hp W A0 c0 A1 c1 n hW hC0 h0 hC1 h1 hn => by
          have hb := parse_some hp
          rw [← hbm1, ← hbm2] at hm
          have hm1 := of_decide_eq_true (Bool.and_eq_true_iff.1 hm).1
          have hm2 := of_decide_eq_true (Bool.and_eq_true_iff.1 hm).2
          obtain ⟨k, rfl⟩ := Int.eq_ofNat_of_zero_le (show 0 ≤ a1 by omega)
          obtain ⟨a, rfl⟩ := Int.eq_ofNat_of_zero_le hm2.1
          rw [setf_some hp, Int.toNat_natCast, Int.toNat_natCast]
          exact every_q_calls t r hb.2.2 ⟨hb.1, hb.2.1⟩ A0 c0 A1 c1 n k a b b2 (by omega) (by omega) (by omega) W hC0 h0 hC1 h1 ((hW.cell (p := ⟨b, 0, none⟩) hlt).trans hc) ((hW.cell (p := ⟨b2, 0, none⟩) hlt2).trans hc2))
      unfold evr at h
      rw [hbm1, hbm2] at h
      rw [h] at this
      exact this
    rw [hbm1] at hin1
    rw [hbm2] at hin2
    clear hbm1 hbm2
    have HX := Aside0.mk hx
    have HI1 := fun w => Aside0.mk (impl_in.calls a1 1 20 _ w hin1)
    have HI2 := fun w => Aside0.mk (impl_in.calls a2 0 100 _ w hin2)
    have HC := Aside0.mk (two_cells w (.int .i64 a1) (.int .i64 a2) 3 3)
    clear hx h hs hin1 hin2 eg
    cases bm1 with
    | true =>
      go_enter Try.func19, Try.ntmps19
      go_wp2_with (first
        | (go_at_call 35; with_reducible refine (HI1 _).out.mono ?_; rintro e w1 ⟨rfl, hd⟩; have hb := drawn0_below hd; have c1 := (hb.cell (p := ⟨w.heap.size, 0, none⟩) (by simp; omega)).trans HC.out.1; have c2 := (hb.cell (p := ⟨w.heap.size + 1, 0, none⟩) (by simp)).trans HC.out.2; have hl1 : w.heap.size + 1 < w1.heap.size := Nat.lt_of_lt_of_le (by simp) hb.size; have HB := Aside0.mk (below_step (below_alloc (below_alloc (Below.refl w.heap.size w) _) _) hb); clear hd hb)
        | (go_at_call 35; with_reducible refine (HI2 _).out.mono ?_; rintro e w2 ⟨rfl, hd⟩; have hb2 := drawn0_below hd; have d1 := (hb2.cell (p := ⟨w.heap.size, 0, none⟩) (by show w.heap.size < w1.heap.size; omega)).trans c1; have d2 := (hb2.cell (p := ⟨w.heap.size + 1, 0, none⟩) hl1).trans c2; have hl2 : w.heap.size + 1 < w2.heap.size := Nat.lt_of_lt_of_le hl1 hb2.size; have HB2 := Aside0.mk (below_step HB.out hb2); clear hd hb2 HB)
        | (go_at_call 34; refine (HX.out _ _ _ d1 d2 (by omega) hl2).mono ?_; rintro e w3 ⟨rfl, hb3⟩))
      go_ret2
      exact ⟨rfl, below_step HB2.out hb3⟩
    | false =>
      go_enter Try.func19, Try.ntmps19
      go_wp2_with (first
        | (go_at_call 35; with_reducible refine (HI1 _).out.mono ?_; rintro e w1 ⟨rfl, hd⟩; have hb := drawn0_below hd; have c1 := (hb.cell (p := ⟨w.heap.size, 0, none⟩) (by simp; omega)).trans HC.out.1; have c2 := (hb.cell (p := ⟨w.heap.size + 1, 0, none⟩) (by simp)).trans HC.out.2; have hl1 : w.heap.size + 1 < w1.heap.size := Nat.lt_of_lt_of_le (by simp) hb.size; have HB := Aside0.mk (below_step (below_alloc (below_alloc (Below.refl w.heap.size w) _) _) hb); clear hd hb)
        | (go_at_call 34; refine (HX.out _ _ _ c1 c2 (by omega) hl1).mono ?_; rintro e w3 ⟨rfl, hb3⟩))
      go_ret2
      exact ⟨rfl, below_step HB.out hb3⟩
  · cases h
end Go.Proofs.Ytflfabdfkfigcaa.P

namespace Go.Proofs.Ytflfabdfkfigcaa.P
open Go.RowKit Go.Proofs.YtflfabdfkfigcaaW.PrintWords Go.Proofs.YtflfabdfkfigcaaW.PrintLast Go.Proofs.YtflfabdfkfigcaaW.PrintMore
attribute [local go_sem] max2_int min2_int max_two min_two max_three min_three max_four min_four   -- for this text's walks alone
set_option linter.unusedVariables false
set_option linter.unusedSimpArgs false

/-! ### spec_DrawMakeEvery: function 18 -/
def spec_DrawMakeEvery.f (k : Nat) (l0 : List Int) : Option (ByteArray × Int × Int) := (spec_l6Open.f l0).bind fun bt416 => ((spec_l91Set.f k bt416.1 bt416.2).bind fun bt419 => ((spec_l91Number.f k bt416.1 bt419.2 19).bind fun bt421 => ((spec_l91Number.f k bt416.1 bt421.2 100).bind fun bt423 => (some (bt419.1, wrap64 (1 + bt421.1), bt423.1)))))
theorem spec_DrawMakeEvery.mono : ∀ a0 k, LeO (spec_DrawMakeEvery.f k a0) (spec_DrawMakeEvery.f (k + 1) a0) := by
  intro a0 k
  unfold spec_DrawMakeEvery.f
  repeat' first
      | (with_reducible exact spec_l91Number.mono _ _ _ _)
      | (with_reducible exact spec_l91Set.mono _ _ _)
      | (with_reducible exact LeO.refl _)
      | (with_reducible exact LeO.none _)
      | (with_reducible refine LeO.ite ?_ ?_)
      | (with_reducible refine LeO.bind ?_ (fun _ => ?_))
      | exact spec_l91Number.mono _ _ _ _
      | exact spec_l91Set.mono _ _ _
      | exact LeO.none _
      | refine LeO.ite ?_ ?_
      | refine LeO.bind ?_ (fun _ => ?_)
set_option maxHeartbeats 8000000 in
set_option maxRecDepth 100000 in
theorem spec_DrawMakeEvery.calls (k : Nat) (A0 : Option Addr) (c0 : Nat) (l0 : List Int) (r1 : ByteArray) (r2 : Int) (r3 : Int) (w : World) (hr0 : Kd.C (Kd.int .u8) w A0 l0.length l0) (hc0 : l0.length ≤ c0) (h : spec_DrawMakeEvery.f k l0 = some (r1, r2, r3)) :
    Calls Try.prog 18 #[.slice A0 l0.length c0] w fun e w' => e = .returned (.tuple #[.string r1, .int .i64 r2, .int .i64 r3]) ∧ Below w.heap.size w w' := by
  have HR0 := Aside0.mk hr0
  have HC0 := Aside0.mk hc0
  clear hr0 hc0
  have HB := Aside0.mk (Below.refl w.heap.size w)
  have H : ((spec_l6Open.f l0).bind fun bt416 => ((spec_l91Set.f k bt416.1 bt416.2).bind fun bt419 => ((spec_l91Number.f k bt416.1 bt419.2 19).bind fun bt421 => ((spec_l91Number.f k bt416.1 bt421.2 100).bind fun bt423 => (some (bt419.1, wrap64 (1 + bt421.1), bt423.1)))))) = some (r1, r2, r3) := h
  clear h
  replace H := Option.bind_eq_some_iff.mp H
  obtain ⟨⟨t416, t417⟩, A20, H⟩ := H
  replace H : ((spec_l91Set.f k t416 t417).bind fun bt419 => ((spec_l91Number.f k t416 bt419.2 19).bind fun bt421 => ((spec_l91Number.f k t416 bt421.2 100).bind fun bt423 => (some (bt419.1, wrap64 (1 + bt421.1), bt423.1))))) = some (r1, r2, r3) := H
  have A2 := Aside0.mk A20
  clear A20
  replace H := Option.bind_eq_some_iff.mp H
  obtain ⟨⟨t419, t420⟩, A30, H⟩ := H
  replace H : ((spec_l91Number.f k t416 t420 19).bind fun bt421 => ((spec_l91Number.f k t416 bt421.2 100).bind fun bt423 => (some (t419, wrap64 (1 + bt421.1), bt423.1)))) = some (r1, r2, r3) := H
  have A3 := Aside0.mk A30
  clear A30
  replace H := Option.bind_eq_some_iff.mp H
  obtain ⟨⟨t421, t422⟩, A40, H⟩ := H
  replace H : ((spec_l91Number.f k t416 t422 100).bind fun bt423 => (some (t419, wrap64 (1 + t421), bt423.1))) = some (r1, r2, r3) := H
  have A4 := Aside0.mk A40
  clear A40
  replace H := Option.bind_eq_some_iff.mp H
  obtain ⟨⟨t423, t424⟩, A50, H⟩ := H
  replace H : (some (t419, wrap64 (1 + t421), t423)) = some (r1, r2, r3) := H
  have A5 := Aside0.mk A50
  clear A50
  simp only [Option.some.injEq, Prod.mk.injEq] at H
  obtain ⟨rfl, rfl, rfl⟩ := H
  go_enter Try.func18, Try.ntmps18
  go_wp2_with (first | ((with_reducible refine gate_callee (f := 31) rfl ?_); refine goesL_ (some 7) rfl rfl Try.func31 (by kernel_rfl) rfl #[.slice A0 l0.length c0] rfl (by (try simp only [List.map_toArray, List.map_cons, List.map_nil]); first | done | rfl | (simp only [List.length_drop, List.length_take]; rfl)) ?_; (with_reducible refine (spec_l6Open.calls _ _ l0 t416 t417 w _ ?side1 ?side2 ?side3 A2.out).mono ?_); (case side1 => repeat (first | (with_reducible first | exact HB.out | apply below_alloc | apply pw_below_drewN | apply below_drew1) | exact HB.out)); (case side2 => exact HR0.out); (case side3 => exact HC0.out); rintro e w6 ⟨g418, rfl, hi, hb, hb2⟩; refine ⟨_, rfl, ?_⟩; have n0_ := Aside0.mk (hb); have n1_ := Aside0.mk (hi); clear HB; have HB := n0_; have HI418 := n1_; clear n0_ n1_; (try clear hb); (try clear hb2); (try clear hk); (try clear hi)) | ((with_reducible refine gate_callee (f := 32) rfl ?_); refine goesL_ (some 9) rfl rfl Try.func32 (by kernel_rfl) rfl #[.pointer (some ⟨g418, 0, none⟩)] rfl (by (try simp only [List.map_toArray, List.map_cons, List.map_nil]); first | done | rfl | (simp only [List.length_drop, List.length_take]; rfl)) ?_; (with_reducible refine (spec_l91Set.calls k g418 t416 t417 t419 t420 w _ ?side1 ?side2 A3.out).mono ?_); (case side1 => repeat (first | (with_reducible first | exact HI418.out | apply IsS64.alloc | apply IsS64.drewN | apply IsS64.drew | apply IsS64.set_1) | exact HI418.out)); (case side2 => repeat (first | (with_reducible first | exact HB.out | apply below_alloc | apply pw_below_drewN | apply below_drew1 | refine below_set ?_ (IsS64.ge HI418.out)) | exact HB.out)); rintro e w7 ⟨rfl, hi, hb, hk⟩; refine ⟨_, rfl, ?_⟩; have n0_ := Aside0.mk (hb); have n1_ := Aside0.mk (hi); clear HB; clear HI418; have HB := n0_; have HI418 := n1_; clear n0_ n1_; (try clear hb); (try clear hb2); (try clear hk); (try clear hi)) | ((with_reducible refine gate_callee (f := 33) rfl ?_); refine goesL_ (some 11) rfl rfl Try.func33 (by kernel_rfl) rfl #[.pointer (some ⟨g418, 0, none⟩), .int .i64 19] rfl (by (try simp only [List.map_toArray, List.map_cons, List.map_nil]); first | done | rfl | (simp only [List.length_drop, List.length_take]; rfl)) ?_; (with_reducible refine (spec_l91Number.calls k g418 t416 t420 19 t421 t422 w _ ?side1 ?side2 A4.out).mono ?_); (case side1 => repeat (first | (with_reducible first | exact HI418.out | apply IsS64.alloc | apply IsS64.drewN | apply IsS64.drew | apply IsS64.set_1) | exact HI418.out)); (case side2 => repeat (first | (with_reducible first | exact HB.out | apply below_alloc | apply pw_below_drewN | apply below_drew1 | refine below_set ?_ (IsS64.ge HI418.out)) | exact HB.out)); rintro e w8 ⟨rfl, hi, hb, hk⟩; refine ⟨_, rfl, ?_⟩; have n0_ := Aside0.mk (hb); have n1_ := Aside0.mk (hi); clear HB; clear HI418; have HB := n0_; have HI418 := n1_; clear n0_ n1_; (try clear hb); (try clear hb2); (try clear hk); (try clear hi)) | ((with_reducible refine gate_callee (f := 33) rfl ?_); refine goesL_ (some 14) rfl rfl Try.func33 (by kernel_rfl) rfl #[.pointer (some ⟨g418, 0, none⟩), .int .i64 100] rfl (by (try simp only [List.map_toArray, List.map_cons, List.map_nil]); first | done | rfl | (simp only [List.length_drop, List.length_take]; rfl)) ?_; (with_reducible refine (spec_l91Number.calls k g418 t416 t422 100 t423 t424 w _ ?side1 ?side2 A5.out).mono ?_); (case side1 => repeat (first | (with_reducible first | exact HI418.out | apply IsS64.alloc | apply IsS64.drewN | apply IsS64.drew | apply IsS64.set_1) | exact HI418.out)); (case side2 => repeat (first | (with_reducible first | exact HB.out | apply below_alloc | apply pw_below_drewN | apply below_drew1 | refine below_set ?_ (IsS64.ge HI418.out)) | exact HB.out)); rintro e w9 ⟨rfl, hi, hb, hk⟩; refine ⟨_, rfl, ?_⟩; have n0_ := Aside0.mk (hb); have n1_ := Aside0.mk (hi); clear HB; clear HI418; have HB := n0_; have HI418 := n1_; clear n0_ n1_; (try clear hb); (try clear hb2); (try clear hk); (try clear hi)))
  go_ret3
  exact ⟨by first | rfl | (simp [errW_none, errW_some] <;> rfl) | (simp [*, errW_none, errW_some] <;> rfl) | (simp [errW_none, errW_some]; exact ⟨rfl, rfl⟩), by repeat (first | (with_reducible first | exact HB.out | apply below_alloc | apply pw_below_drewN | apply below_drew1 | refine below_set ?_ (IsS64.ge HI418.out)) | exact HB.out)⟩

end Go.Proofs.Ytflfabdfkfigcaa.P

namespace Go.Proofs.Ytflfabdfkfigcaa.P
open Go.RowKit Go.Proofs.YtflfabdfkfigcaaW.PrintWords Go.Proofs.YtflfabdfkfigcaaW.PrintLast Go.Proofs.YtflfabdfkfigcaaW.PrintMore
attribute [local go_sem] max2_int min2_int max_two min_two max_three min_three max_four min_four   -- for this text's walks alone
set_option linter.unusedVariables false
set_option linter.unusedSimpArgs false

/-! ### spec_MakeEvery: function 20 -/
mutual
def spec_MakeEvery.j0 : Nat → Int → Int → Bool → List Bool → List Bool → Option (ByteArray × Bool)
  | 0, _, _, _, _, _ => none
  | k + 1, x1, x2, x28, x433000, x433001 => if x28 = true then (some ((⟨#[]⟩ : ByteArray), false)) else (spec_MakeEvery.l0 k x1 x2 (([] : List Bool)) 0 x433000 x433001)
def spec_MakeEvery.l0 : Nat → Int → Int → List Bool → Int → List Bool → List Bool → Option (ByteArray × Bool)
  | 0, _, _, _, _, _, _ => none
  | k + 1, x1, x2, x10, x11, x433000, x433001 => if x11 < (wrap64 ((x433000.length : Int) + (x433001.length : Int))) then ((spec_l1Has.f x433000 x433001 (wrap64 ((wrap64 (x1 * x11)) + x2))).bind fun t438 => (if x10.length < 140737488355328 then (spec_MakeEvery.l0 k x1 x2 (x10 ++ [t438]) (wrap64 (x11 + 1)) x433000 x433001) else (none))) else ((spec_l2Fill.f k x10 (x433000.length : Int)).bind fun bt442 => (some (bt442.1, bt442.2)))
end
def spec_MakeEvery.f (k : Nat) (a0 : ByteArray) (a1 : Int) (a2 : Int) : Option (ByteArray × Bool) := (spec_l1Read.f k a0).bind fun bt425 => (if bt425.2.2 = true then ((spec_l6In.f a1 1 20).bind fun t433 => (if t433 = true then ((spec_l6In.f a2 0 100).bind fun t434 => (spec_MakeEvery.j0 k a1 a2 (!t434) bt425.1 bt425.2.1)) else (spec_MakeEvery.j0 k a1 a2 true bt425.1 bt425.2.1))) else (spec_MakeEvery.j0 k a1 a2 true bt425.1 bt425.2.1))
theorem spec_MakeEvery.mono_l : ∀ k, (∀ y0 y1 y2 y3 y4, LeO (spec_MakeEvery.j0 k y0 y1 y2 y3 y4) (spec_MakeEvery.j0 (k + 1) y0 y1 y2 y3 y4)) ∧ (∀ y0 y1 y2 y3 y4 y5, LeO (spec_MakeEvery.l0 k y0 y1 y2 y3 y4 y5) (spec_MakeEvery.l0 (k + 1) y0 y1 y2 y3 y4 y5))
  | 0 => ⟨fun _ _ _ _ _ r h => by simp [spec_MakeEvery.j0] at h, fun _ _ _ _ _ _ r h => by simp [spec_MakeEvery.l0] at h⟩
  | k + 1 => by
    obtain ⟨ih0, ih1⟩ := spec_MakeEvery.mono_l k
    refine ⟨?_, ?_⟩
    · intro y0 y1 y2 y3 y4
      unfold spec_MakeEvery.j0
      repeat' first
      | (with_reducible exact ih0 _ _ _ _ _)
      | (with_reducible exact ih1 _ _ _ _ _ _)
      | (with_reducible exact spec_l1Read.mono _ _)
      | (with_reducible exact spec_l2Fill.mono _ _ _)
      | (with_reducible exact LeO.refl _)
      | (with_reducible exact LeO.none _)
      | (with_reducible refine LeO.ite ?_ ?_)
      | (with_reducible refine LeO.bind ?_ (fun _ => ?_))
      | exact ih0 _ _ _ _ _
      | exact ih1 _ _ _ _ _ _
      | exact spec_l1Read.mono _ _
      | exact spec_l2Fill.mono _ _ _
      | exact LeO.none _
      | refine LeO.ite ?_ ?_
      | refine LeO.bind ?_ (fun _ => ?_)
    · intro y0 y1 y2 y3 y4 y5
      unfold spec_MakeEvery.l0
      repeat' first
      | (with_reducible exact ih0 _ _ _ _ _)
      | (with_reducible exact ih1 _ _ _ _ _ _)
      | (with_reducible exact spec_l1Read.mono _ _)
      | (with_reducible exact spec_l2Fill.mono _ _ _)
      | (with_reducible exact LeO.refl _)
      | (with_reducible exact LeO.none _)
      | (with_reducible refine LeO.ite ?_ ?_)
      | (with_reducible refine LeO.bind ?_ (fun _ => ?_))
      | exact ih0 _ _ _ _ _
      | exact ih1 _ _ _ _ _ _
      | exact spec_l1Read.mono _ _
      | exact spec_l2Fill.mono _ _ _
      | exact LeO.none _
      | refine LeO.ite ?_ ?_
      | refine LeO.bind ?_ (fun _ => ?_)
theorem spec_MakeEvery.mono : ∀ a0 a1 a2 k, LeO (spec_MakeEvery.f k a0 a1 a2) (spec_MakeEvery.f (k + 1) a0 a1 a2) := by
  intro a0 a1 a2 k
  obtain ⟨ih0, ih1⟩ := spec_MakeEvery.mono_l k
  unfold spec_MakeEvery.f
  repeat' first
      | (with_reducible exact ih0 _ _ _ _ _)
      | (with_reducible exact ih1 _ _ _ _ _ _)
      | (with_reducible exact spec_l1Read.mono _ _)
      | (with_reducible exact spec_l2Fill.mono _ _ _)
      | (with_reducible exact LeO.refl _)
      | (with_reducible exact LeO.none _)
      | (with_reducible refine LeO.ite ?_ ?_)
      | (with_reducible refine LeO.bind ?_ (fun _ => ?_))
      | exact ih0 _ _ _ _ _
      | exact ih1 _ _ _ _ _ _
      | exact spec_l1Read.mono _ _
      | exact spec_l2Fill.mono _ _ _
      | exact LeO.none _
      | refine LeO.ite ?_ ?_
      | refine LeO.bind ?_ (fun _ => ?_)
set_option maxHeartbeats 8000000 in
set_option maxRecDepth 100000 in
theorem spec_MakeEvery.calls (k : Nat) (a0 : ByteArray) (a1 : Int) (a2 : Int) (r1 : ByteArray) (r2 : Bool) (w : World) (h : spec_MakeEvery.f k a0 a1 a2 = some (r1, r2)) :
    Calls Try.prog 20 #[.string a0, .int .i64 a1, .int .i64 a2] w fun e w' => e = .returned (.tuple #[.string r1, .bool r2]) ∧ Below w.heap.size w w' := by
  have hu48 := Try.underlying48
  have HB := Aside0.mk (Below.refl w.heap.size w)
  have H : ((spec_l1Read.f k a0).bind fun bt425 => (if bt425.2.2 = true then ((spec_l6In.f a1 1 20).bind fun t433 => (if t433 = true then ((spec_l6In.f a2 0 100).bind fun t434 => (spec_MakeEvery.j0 k a1 a2 (!t434) bt425.1 bt425.2.1)) else (spec_MakeEvery.j0 k a1 a2 true bt425.1 bt425.2.1))) else (spec_MakeEvery.j0 k a1 a2 true bt425.1 bt425.2.1))) = some (r1, r2) := h
  clear h
  replace H := Option.bind_eq_some_iff.mp H
  obtain ⟨⟨t425, t428, t431⟩, A40, H⟩ := H
  replace H : (if t431 = true then ((spec_l6In.f a1 1 20).bind fun t433 => (if t433 = true then ((spec_l6In.f a2 0 100).bind fun t434 => (spec_MakeEvery.j0 k a1 a2 (!t434) t425 t428)) else (spec_MakeEvery.j0 k a1 a2 true t425 t428))) else (spec_MakeEvery.j0 k a1 a2 true t425 t428)) = some (r1, r2) := H
  have A4 := Aside0.mk A40
  clear A40
  have HC5 := Aside0.mk H
  clear H
  go_enter Try.func20, Try.ntmps20
  go_upto_region 2 with (first | ((with_reducible refine gate_callee (f := 38) rfl ?_); refine goesL_ (some 14) rfl rfl Try.func38 (by kernel_rfl) rfl #[.string a0] rfl (by (try simp only [List.map_toArray, List.map_cons, List.map_nil]); first | done | rfl | (simp only [List.length_drop, List.length_take]; rfl)) ?_; (with_reducible refine (spec_l1Read.calls k a0 t425 t428 t431 _ A4.out).mono ?_); rintro e w6 ⟨v426, v429, rfl, ho0, ho1, hb⟩; refine ⟨_, rfl, ?_⟩; have n0_ := Aside0.mk (Kd.R_lower ho0 (below_size (by repeat (first | (with_reducible first | exact HB.out | apply below_alloc | apply pw_below_drewN | apply below_drew1) | exact HB.out)))); have n1_ := Aside0.mk (Kd.R_lower ho1 (below_size (by repeat (first | (with_reducible first | exact HB.out | apply below_alloc | apply pw_below_drewN | apply below_drew1) | exact HB.out)))); have n2_ := Aside0.mk (below_step (by repeat (first | (with_reducible first | exact HB.out | apply below_alloc | apply pw_below_drewN | apply below_drew1) | exact HB.out)) hb); clear HB; have HO427 := n0_; have HO430 := n1_; have HB := n2_; clear n0_ n1_ n2_; (try clear hb); (try clear hb2); (try clear hk); (try clear hi); (try clear ho0); (try clear ho1)) | ((with_reducible refine gate_dst (N := 8) rfl ?_); refine box_event ?hg (N := 8) ?hd (cs := #[.slice none 0 0, .slice none 0 0]) (t := 48) ?hr ?_; (case hd => rfl); (case hg => rfl); (case hr => first | (go_simp; done) | (go_simp; rfl)); intro gb432 hg w7 hbox hb; have n0_ := Aside0.mk (Kd.R_below (by (with_reducible repeat (first | apply Kd.R_alloc | apply Kd.R_drewN | apply Kd.R_drew)); exact HO427.out) hb); have n1_ := Aside0.mk (Kd.R_below (by (with_reducible repeat (first | apply Kd.R_alloc | apply Kd.R_drewN | apply Kd.R_drew)); exact HO430.out) hb); have n2_ := Aside0.mk (below_step (by repeat (first | (with_reducible first | exact HB.out | apply below_alloc | apply pw_below_drewN | apply below_drew1) | exact HB.out)) hb); have n3_ := Aside0.mk (hbox); have n4_ := Aside0.mk ((by rw [hg]; exact (below_size (by repeat (first | (with_reducible first | exact HB.out | apply below_alloc | apply pw_below_drewN | apply below_drew1) | exact HB.out))) : w.heap.size ≤ gb432)); have n5_ := Aside0.mk ((by rw [hg]; exact (below_size (by repeat (first | (with_reducible first | exact HB.out | apply below_alloc | apply pw_below_drewN | apply below_drew1) | exact HB.out))) : w.heap.size ≤ gb432)); clear HO427; clear HO430; clear HB; have HO427 := n0_; have HO430 := n1_; have HB := n2_; have BK432 := n3_; have GW432 := n4_; have GE432 := n5_; clear n0_ n1_ n2_ n3_ n4_ n5_; clear hb hbox hg; obtain ⟨Ao8, co8, eo8⟩ := Kd.R_slice HO427.out; subst eo8; have hcz9_0 : w7.cell? ⟨gb432, 0, none⟩ = some (.slice none 0 0) := (blk_cell BK432.out 0).trans rfl; have hcz9_1 : w7.cell? ⟨gb432, 1, none⟩ = some (.slice none 0 0) := (blk_cell BK432.out 1).trans rfl; have hfz9_0 := blk_frozen BK432.out 0; have hfz9_1 := blk_frozen BK432.out 1; obtain ⟨Ao10, co10, eo10⟩ := Kd.R_slice HO430.out; subst eo10))
  (try simp only [Act.put, List.setIfInBounds_toArray, List.set_cons_zero, List.set_cons_succ])
  go_cut [28] (fun v28 wc => ∃ (kq : Nat) (x28_4 : Bool), v28 = .bool x28_4 ∧ Aside0 (spec_MakeEvery.j0 kq a1 a2 x28_4 t425 t428 = some (r1, r2)) ∧ Aside0 (kq ≤ k) ∧ Aside0 (Kd.R Kd.bool 4 wc w.heap.size (fun k_ => some k_ ≠ ((.slice Ao10 t428.length co10) : Value).ownBlock) (.slice Ao8 t425.length co8) t425) ∧ Aside0 (Kd.R Kd.bool 4 wc w.heap.size (fun k_ => some k_ ≠ ((.slice Ao8 t425.length co8) : Value).ownBlock) (.slice Ao10 t428.length co10) t428) ∧ Aside0 (wc.heap[gb432]? = some (.cells #[(.slice Ao8 t425.length co8), (.slice Ao10 t428.length co10)] 48 (0, 0))) ∧ Aside0 (Below w.heap.size w wc))
  case first =>
    have H := HC5.out
    clear HC5
    by_cases c11 : t431 = true
    · subst c11
      have H1 : ((spec_l6In.f a1 1 20).bind fun t433 => (if t433 = true then ((spec_l6In.f a2 0 100).bind fun t434 => (spec_MakeEvery.j0 k a1 a2 (!t434) t425 t428)) else (spec_MakeEvery.j0 k a1 a2 true t425 t428))) = some (r1, r2) := by rw [if_pos rfl] at H; exact H
      clear H
      have H := H1
      clear H1
      replace H := Option.bind_eq_some_iff.mp H
      obtain ⟨t433, A120, H⟩ := H
      replace H : (if t433 = true then ((spec_l6In.f a2 0 100).bind fun t434 => (spec_MakeEvery.j0 k a1 a2 (!t434) t425 t428)) else (spec_MakeEvery.j0 k a1 a2 true t425 t428)) = some (r1, r2) := H
      have A12 := Aside0.mk A120
      clear A120
      by_cases c13 : t433 = true
      · subst c13
        have H1 : ((spec_l6In.f a2 0 100).bind fun t434 => (spec_MakeEvery.j0 k a1 a2 (!t434) t425 t428)) = some (r1, r2) := by rw [if_pos rfl] at H; exact H
        clear H
        have H := H1
        clear H1
        replace H := Option.bind_eq_some_iff.mp H
        obtain ⟨t434, A140, H⟩ := H
        replace H : (spec_MakeEvery.j0 k a1 a2 (!t434) t425 t428) = some (r1, r2) := H
        have A14 := Aside0.mk A140
        clear A140
        have H' := Aside0.mk H
        clear H
        go_wp2_with (first | (go_at_call 39; (with_reducible refine (spec_l6In.calls a1 1 20 true _ A12.out).mono ?_); rintro e w' ⟨rfl, ⟨nd, rfl⟩⟩) | (go_at_call 39; (with_reducible refine (spec_l6In.calls a2 0 100 t434 _ A14.out).mono ?_); rintro e w' ⟨rfl, ⟨nd, rfl⟩⟩))
        go_meet
        case rel => exact ⟨_, (!t434), (by first | rfl | (simp; done) | (simp [*]; done) | (simp [Int.tmod_eq_emod_of_nonneg]; done)), H', ⟨by first | omega | exact Nat.le_refl _⟩, ⟨by (with_reducible repeat (first | apply Kd.R_alloc | apply Kd.R_drewN | apply Kd.R_drew)); exact Kd.R_mono (Kd.R_far (p := ⟨gb432, 1, none⟩) (Kd.R_far (p := ⟨gb432, 0, none⟩) (Kd.R_types HO427.out BK432.out (by decide)) (fun _ hk => hk.2) (.slice Ao8 t425.length co8)) (fun _ hk => hk.2) (.slice Ao10 t428.length co10)) (fun _ hk => hk.1)⟩, ⟨by (with_reducible repeat (first | apply Kd.R_alloc | apply Kd.R_drewN | apply Kd.R_drew)); exact Kd.R_mono (Kd.R_far (p := ⟨gb432, 1, none⟩) (Kd.R_far (p := ⟨gb432, 0, none⟩) (Kd.R_types HO430.out BK432.out (by decide)) (fun _ hk => hk.2) (.slice Ao8 t425.length co8)) (fun _ hk => hk.2) (.slice Ao10 t428.length co10)) (fun _ hk => hk.1)⟩, ⟨by (with_reducible repeat (first | refine blk_drewN ?_ _ | refine blk_drew ?_ | refine blk_alloc ?_ _)); refine blk_put (cs := #[.slice Ao8 t425.length co8, .slice none 0 0]) ?_ 1 _ rfl; (with_reducible repeat (first | refine blk_drewN ?_ _ | refine blk_drew ?_ | refine blk_alloc ?_ _)); refine blk_put (cs := #[.slice none 0 0, .slice none 0 0]) ?_ 0 _ rfl; (with_reducible repeat (first | refine blk_drewN ?_ _ | refine blk_drew ?_ | refine blk_alloc ?_ _)); exact BK432.out⟩, ⟨by repeat (first | (with_reducible first | exact HB.out | apply below_alloc | apply pw_below_drewN | apply below_drew1 | refine below_set ?_ GE432.out) | exact HB.out)⟩⟩
      · replace c13 := Bool.eq_false_iff.mpr c13
        subst c13
        have H1 : (spec_MakeEvery.j0 k a1 a2 true t425 t428) = some (r1, r2) := by rw [if_neg (show ¬ (false = true) by decide)] at H; exact H
        clear H
        have H := H1
        clear H1
        have H' := Aside0.mk H
        clear H
        go_wp2_with (first | (go_at_call 39; (with_reducible refine (spec_l6In.calls a1 1 20 false _ A12.out).mono ?_); rintro e w' ⟨rfl, ⟨nd, rfl⟩⟩))
        go_meet
        case rel => exact ⟨_, (true), (by first | rfl | (simp; done) | (simp [*]; done) | (simp [Int.tmod_eq_emod_of_nonneg]; done)), H', ⟨by first | omega | exact Nat.le_refl _⟩, ⟨by (with_reducible repeat (first | apply Kd.R_alloc | apply Kd.R_drewN | apply Kd.R_drew)); exact Kd.R_mono (Kd.R_far (p := ⟨gb432, 1, none⟩) (Kd.R_far (p := ⟨gb432, 0, none⟩) (Kd.R_types HO427.out BK432.out (by decide)) (fun _ hk => hk.2) (.slice Ao8 t425.length co8)) (fun _ hk => hk.2) (.slice Ao10 t428.length co10)) (fun _ hk => hk.1)⟩, ⟨by (with_reducible repeat (first | apply Kd.R_alloc | apply Kd.R_drewN | apply Kd.R_drew)); exact Kd.R_mono (Kd.R_far (p := ⟨gb432, 1, none⟩) (Kd.R_far (p := ⟨gb432, 0, none⟩) (Kd.R_types HO430.out BK432.out (by decide)) (fun _ hk => hk.2) (.slice Ao8 t425.length co8)) (fun _ hk => hk.2) (.slice Ao10 t428.length co10)) (fun _ hk => hk.1)⟩, ⟨by (with_reducible repeat (first | refine blk_drewN ?_ _ | refine blk_drew ?_ | refine blk_alloc ?_ _)); refine blk_put (cs := #[.slice Ao8 t425.length co8, .slice none 0 0]) ?_ 1 _ rfl; (with_reducible repeat (first | refine blk_drewN ?_ _ | refine blk_drew ?_ | refine blk_alloc ?_ _)); refine blk_put (cs := #[.slice none 0 0, .slice none 0 0]) ?_ 0 _ rfl; (with_reducible repeat (first | refine blk_drewN ?_ _ | refine blk_drew ?_ | refine blk_alloc ?_ _)); exact BK432.out⟩, ⟨by repeat (first | (with_reducible first | exact HB.out | apply below_alloc | apply pw_below_drewN | apply below_drew1 | refine below_set ?_ GE432.out) | exact HB.out)⟩⟩
    · replace c11 := Bool.eq_false_iff.mpr c11
      subst c11
      have H1 : (spec_MakeEvery.j0 k a1 a2 true t425 t428) = some (r1, r2) := by rw [if_neg (show ¬ (false = true) by decide)] at H; exact H
      clear H
      have H := H1
      clear H1
      have H' := Aside0.mk H
      clear H
      go_wp2
      go_meet
      case rel => exact ⟨_, (true), (by first | rfl | (simp; done) | (simp [*]; done) | (simp [Int.tmod_eq_emod_of_nonneg]; done)), H', ⟨by first | omega | exact Nat.le_refl _⟩, ⟨by (with_reducible repeat (first | apply Kd.R_alloc | apply Kd.R_drewN | apply Kd.R_drew)); exact Kd.R_mono (Kd.R_far (p := ⟨gb432, 1, none⟩) (Kd.R_far (p := ⟨gb432, 0, none⟩) (Kd.R_types HO427.out BK432.out (by decide)) (fun _ hk => hk.2) (.slice Ao8 t425.length co8)) (fun _ hk => hk.2) (.slice Ao10 t428.length co10)) (fun _ hk => hk.1)⟩, ⟨by (with_reducible repeat (first | apply Kd.R_alloc | apply Kd.R_drewN | apply Kd.R_drew)); exact Kd.R_mono (Kd.R_far (p := ⟨gb432, 1, none⟩) (Kd.R_far (p := ⟨gb432, 0, none⟩) (Kd.R_types HO430.out BK432.out (by decide)) (fun _ hk => hk.2) (.slice Ao8 t425.length co8)) (fun _ hk => hk.2) (.slice Ao10 t428.length co10)) (fun _ hk => hk.1)⟩, ⟨by (with_reducible repeat (first | refine blk_drewN ?_ _ | refine blk_drew ?_ | refine blk_alloc ?_ _)); refine blk_put (cs := #[.slice Ao8 t425.length co8, .slice none 0 0]) ?_ 1 _ rfl; (with_reducible repeat (first | refine blk_drewN ?_ _ | refine blk_drew ?_ | refine blk_alloc ?_ _)); refine blk_put (cs := #[.slice none 0 0, .slice none 0 0]) ?_ 0 _ rfl; (with_reducible repeat (first | refine blk_drewN ?_ _ | refine blk_drew ?_ | refine blk_alloc ?_ _)); exact BK432.out⟩, ⟨by repeat (first | (with_reducible first | exact HB.out | apply below_alloc | apply pw_below_drewN | apply below_drew1 | refine below_set ?_ GE432.out) | exact HB.out)⟩⟩
  case rest =>
    clear HC5
    try clear c1
    try clear c2
    try clear p2
    try clear c3
    try clear c11
    try clear c13
    try clear hcz9_0
    try clear hcz9_1
    try clear hfz9_0
    try clear hfz9_1
    obtain ⟨kq, x28_4, rfl, HA, HJ4, HO_433000, HO_433001, BK432, HB⟩ := hcut
    cases kq with
    | zero => exact absurd HA.out (by simp [spec_MakeEvery.j0])
    | succ kj4 =>
      have H := HA.out
      clear HA
      simp only [spec_MakeEvery.j0] at H
      by_cases c15 : x28_4 = true
      · subst c15
        have H1 : (some ((⟨#[]⟩ : ByteArray), false)) = some (r1, r2) := by rw [if_pos rfl] at H; exact H
        clear H
        have H := H1
        clear H1
        simp only [Option.some.injEq, Prod.mk.injEq] at H
        obtain ⟨rfl, rfl⟩ := H
        go_wp2
        go_ret2
        exact ⟨by first | rfl | (simp [errW_none, errW_some] <;> rfl) | (simp [*, errW_none, errW_some] <;> rfl) | (simp [errW_none, errW_some]; exact ⟨rfl, rfl⟩), by repeat (first | (with_reducible first | exact HB.out | apply below_alloc | apply pw_below_drewN | apply below_drew1 | refine below_set ?_ GE432.out) | exact HB.out)⟩
      · replace c15 := Bool.eq_false_iff.mpr c15
        subst c15
        have H1 : (spec_MakeEvery.l0 kj4 a1 a2 (([] : List Bool)) 0 t425 t428) = some (r1, r2) := by rw [if_neg (show ¬ (false = true) by decide)] at H; exact H
        clear H
        have H := H1
        clear H1
        obtain ⟨y435, hy435⟩ : ∃ y_ : List Bool, y_ = (([] : List Bool)) := ⟨_, rfl⟩
        replace H : (spec_MakeEvery.l0 kj4 a1 a2 y435 0 t425 t428) = some (r1, r2) := by first | (rw [hy435]; with_reducible exact H) | (have H2_ := (Option.bind_some _ _).symm.trans H; rw [hy435]; with_reducible exact H2_) | (have H2_ := (Option.bind_some _ _).symm.trans H; with_reducible exact H2_) | with_reducible exact H | (rw [hy435]; exact H) | exact H
        have Ny435 := Aside0.mk hy435
        clear hy435
        have H' := Aside0.mk H
        clear H
        go_wp2_with (first | ((with_reducible refine gate_dst (N := 29) rfl ?_); refine Kd.R_lit Kd.bool _ 4 ?hg (N := 29) ?hd (xs := ([] : List Bool)) (inner := []) (ok := fun _ => True) (okp := fun _ => True) ?hr ?hp (fun _ hk => hk) trivial (Below.refl _ _) (Nat.le_refl _) (by simp) ?_; (case hd => rfl); (case hg => rfl); (case hr => first | (go_simp; done) | (go_simp; rfl)); (case hp => exact (Reps.none _ _)); intro v436 w16 ho17 hb hg_ hnew_; clear hg_ hnew_; (first | rw [← Ny435.out] at ho17 | (simp only [Int.reduceToNat] at ho17; rw [← Ny435.out] at ho17)); have n0_ := Aside0.mk (Kd.R_elder' (by (with_reducible repeat (first | apply Kd.R_alloc | apply Kd.R_drewN | apply Kd.R_drew)); exact HO_433000.out) (Kd.R_base ho17) hb); have n1_ := Aside0.mk (Kd.R_elder' (by (with_reducible repeat (first | apply Kd.R_alloc | apply Kd.R_drewN | apply Kd.R_drew)); exact HO_433001.out) (Kd.R_base ho17) hb); have n2_ := Aside0.mk (Kd.R_lower (Kd.R_new' (Kd.R_new' ho17 (Kd.R_lt (by (with_reducible repeat (first | apply Kd.R_alloc | apply Kd.R_drewN | apply Kd.R_drew)); exact HO_433000.out))) (Kd.R_lt (by (with_reducible repeat (first | apply Kd.R_alloc | apply Kd.R_drewN | apply Kd.R_drew)); exact HO_433001.out))) (below_size (by repeat (first | (with_reducible first | exact HB.out | apply below_alloc | apply pw_below_drewN | apply below_drew1 | refine below_set ?_ GE432.out) | exact HB.out)))); have n3_ := Aside0.mk (blk_below (g := gb432) (o := .cells #[.slice Ao8 t425.length co8, .slice Ao10 t428.length co10] 48 (0, 0)) (by (with_reducible repeat (first | refine blk_drewN ?_ _ | refine blk_drew ?_ | refine blk_alloc ?_ _)); exact BK432.out) hb); have n4_ := Aside0.mk (below_step (by repeat (first | (with_reducible first | exact HB.out | apply below_alloc | apply pw_below_drewN | apply below_drew1 | refine below_set ?_ GE432.out) | exact HB.out)) hb); clear HO_433000; clear HO_433001; clear BK432; clear HB; have HO_433000 := n0_; have HO_433001 := n1_; have HO437 := n2_; have BK432 := n3_; have HB := n4_; clear n0_ n1_ n2_ n3_ n4_; clear hb ho17))
        go_loopg [10, 11] kj4 (fun kq v10 v11 w' => ∃ (x10_2 : List Bool) (x11_2 : Int), v11 = .int .i64 x11_2 ∧ Aside0 (spec_MakeEvery.l0 kq a1 a2 x10_2 x11_2 t425 t428 = some (r1, r2)) ∧ Aside0 (kq ≤ kj4) ∧ Aside0 (Kd.R Kd.bool 4 w' w.heap.size (fun k_ => some k_ ≠ ((.slice Ao8 t425.length co8) : Value).ownBlock ∧ some k_ ≠ ((.slice Ao10 t428.length co10) : Value).ownBlock) v10 x10_2) ∧ Aside0 (Kd.R Kd.bool 4 w' w.heap.size (fun k_ => some k_ ≠ (v10 : Value).ownBlock ∧ some k_ ≠ ((.slice Ao10 t428.length co10) : Value).ownBlock) (.slice Ao8 t425.length co8) t425) ∧ Aside0 (Kd.R Kd.bool 4 w' w.heap.size (fun k_ => some k_ ≠ (v10 : Value).ownBlock ∧ some k_ ≠ ((.slice Ao8 t425.length co8) : Value).ownBlock) (.slice Ao10 t428.length co10) t428) ∧ Aside0 (w'.heap[gb432]? = some (.cells #[(.slice Ao8 t425.length co8), (.slice Ao10 t428.length co10)] 48 (0, 0))) ∧ Aside0 (Below w.heap.size w w'))
        case atStart => exact ⟨(y435), (0), (by first | rfl | (simp; done) | (simp [*]; done) | (simp [Int.tmod_eq_emod_of_nonneg]; done)), H', ⟨Nat.le_refl _⟩, ⟨by (with_reducible repeat (first | apply Kd.R_alloc | apply Kd.R_drewN | apply Kd.R_drew)); exact Kd.R_mono HO437.out (fun _ hk => ⟨hk.1.2, hk.2⟩)⟩, ⟨by (with_reducible repeat (first | apply Kd.R_alloc | apply Kd.R_drewN | apply Kd.R_drew)); exact Kd.R_mono HO_433000.out (fun _ hk => ⟨hk.2, hk.1⟩)⟩, ⟨by (with_reducible repeat (first | apply Kd.R_alloc | apply Kd.R_drewN | apply Kd.R_drew)); exact Kd.R_mono HO_433001.out (fun _ hk => ⟨hk.2, hk.1⟩)⟩, ⟨by (with_reducible repeat (first | refine blk_drewN ?_ _ | refine blk_drew ?_ | refine blk_alloc ?_ _)); exact BK432.out⟩, ⟨by repeat (first | (with_reducible first | exact HB.out | apply below_alloc | apply pw_below_drewN | apply below_drew1 | refine below_set ?_ GE432.out) | exact HB.out)⟩⟩
        case round =>
          clear H'
          try clear c1
          try clear c2
          try clear p2
          try clear c3
          try clear c11
          try clear c13
          try clear c15
          try clear hcz9_0
          try clear hcz9_1
          try clear hfz9_0
          try clear hfz9_1
          try clear p2
          obtain ⟨x10_2, x11_2, rfl, HA, HK2, HO_10, HO_433000, HO_433001, BK432, HB⟩ := hrel
          cases gk with
          | zero => exact absurd HA.out (by simp [spec_MakeEvery.l0])
          | succ k2 =>
            have H := HA.out
            clear HA
            simp only [spec_MakeEvery.l0] at H
            by_cases c18 : x11_2 < (wrap64 ((t425.length : Int) + (t428.length : Int)))
            · rw [if_pos c18] at H
              have c18b0 : decide (x11_2 < (wrap64 ((t425.length : Int) + (t428.length : Int)))) = true := decide_eq_true c18
              clear c18
              replace H := Option.bind_eq_some_iff.mp H
              obtain ⟨t438, A190, H⟩ := H
              replace H : (if x10_2.length < 140737488355328 then (spec_MakeEvery.l0 k2 a1 a2 (x10_2 ++ [t438]) (wrap64 (x11_2 + 1)) t425 t428) else (none)) = some (r1, r2) := H
              have A19 := Aside0.mk A190
              clear A190
              by_cases c20 : x10_2.length < 140737488355328
              · rw [if_pos c20] at H
                have LMc20 := Aside0.mk c20
                clear c20
                obtain ⟨y439, hy439⟩ : ∃ y_ : List Bool, y_ = (x10_2 ++ [t438]) := ⟨_, rfl⟩
                replace H : (spec_MakeEvery.l0 k2 a1 a2 y439 (wrap64 (x11_2 + 1)) t425 t428) = some (r1, r2) := by first | (rw [hy439]; with_reducible exact H) | (have H2_ := (Option.bind_some _ _).symm.trans H; rw [hy439]; with_reducible exact H2_) | (have H2_ := (Option.bind_some _ _).symm.trans H; with_reducible exact H2_) | with_reducible exact H | (rw [hy439]; exact H) | exact H
                have Ny439 := Aside0.mk hy439
                clear hy439
                have H' := Aside0.mk H
                clear H
                have hcz21_0 : wr.cell? ⟨gb432, 0, none⟩ = some (.slice Ao8 t425.length co8) := (blk_cell BK432.out 0).trans rfl
                have hcz21_1 : wr.cell? ⟨gb432, 1, none⟩ = some (.slice Ao10 t428.length co10) := (blk_cell BK432.out 1).trans rfl
                have hfz21_0 := blk_frozen BK432.out 0
                have hfz21_1 := blk_frozen BK432.out 1
                go_wp2_with (first | ((with_reducible refine gate_callee (f := 40) rfl ?_); refine goesL_ (some 48) rfl rfl Try.func40 (by kernel_rfl) rfl #[.agg #[.slice Ao8 t425.length co8, .slice Ao10 t428.length co10], .int .i64 (wrap64 ((wrap64 (a1 * x11_2)) + a2))] rfl (by (try simp only [List.map_toArray, List.map_cons, List.map_nil]); first | done | rfl | (simp only [List.length_drop, List.length_take]; rfl)) ?_; (with_reducible refine (spec_l1Has.calls _ _ t425 _ _ t428 (wrap64 ((wrap64 (a1 * x11_2)) + a2)) t438 _ ?side1 ?side2 ?side3 ?side4 A19.out).mono ?_); (case side1 => repeat (first | exact (Kd.R_reads' HO_433000.out).2.2 | (with_reducible refine Kd.C_alloc ?_ _) | (with_reducible refine Kd.C_drewN ?_ _) | (with_reducible refine Kd.C_drew ?_))); (case side2 => exact (Kd.R_reads' HO_433000.out).2.1); (case side3 => repeat (first | exact (Kd.R_reads' HO_433001.out).2.2 | (with_reducible refine Kd.C_alloc ?_ _) | (with_reducible refine Kd.C_drewN ?_ _) | (with_reducible refine Kd.C_drew ?_))); (case side4 => exact (Kd.R_reads' HO_433001.out).2.1); rintro e w22 ⟨rfl, hb⟩; refine ⟨_, rfl, ?_⟩; have n0_ := Aside0.mk (Kd.R_below (by (with_reducible repeat (first | apply Kd.R_alloc | apply Kd.R_drewN | apply Kd.R_drew)); exact HO_10.out) hb); have n1_ := Aside0.mk (Kd.R_below (by (with_reducible repeat (first | apply Kd.R_alloc | apply Kd.R_drewN | apply Kd.R_drew)); exact HO_433000.out) hb); have n2_ := Aside0.mk (Kd.R_below (by (with_reducible repeat (first | apply Kd.R_alloc | apply Kd.R_drewN | apply Kd.R_drew)); exact HO_433001.out) hb); have n3_ := Aside0.mk (blk_below (g := gb432) (o := .cells #[.slice Ao8 t425.length co8, .slice Ao10 t428.length co10] 48 (0, 0)) (by (with_reducible repeat (first | refine blk_drewN ?_ _ | refine blk_drew ?_ | refine blk_alloc ?_ _)); exact BK432.out) hb); have n4_ := Aside0.mk (below_step (by repeat (first | (with_reducible first | exact HB.out | apply below_alloc | apply pw_below_drewN | apply below_drew1 | refine below_set ?_ GE432.out) | exact HB.out)) hb); clear HO_10; clear HO_433000; clear HO_433001; clear BK432; clear HB; have HO_10 := n0_; have HO_433000 := n1_; have HO_433001 := n2_; have BK432 := n3_; have HB := n4_; clear n0_ n1_ n2_ n3_ n4_; (try clear hb); (try clear hb2); (try clear hk); (try clear hi)) | ((with_reducible refine gate_builtin (b := .append) (xs := #[.tmp 41, .tmp 49]) rfl ?_); at_builtin; refine Kd.R_append Kd.bool (w0 := w) w.heap.size rfl (.tmp 41) (.tmp 49) 42 4 (.bool false) 1 rfl Try.underlying42 info4 rfl (by decide) (by omega) u10 x10_2 t438 [.bool t438] (fun k_ => some k_ ≠ (.slice Ao8 t425.length co8 : Value).ownBlock ∧ some k_ ≠ (.slice Ao10 t428.length co10 : Value).ownBlock) (fun _ => False) rfl rfl ?aP (fun _ hk => hk.elim) ?aF ?aO ?aB ?aS ?aL ?_; (case aP => exact rfl); (case aB => exact (by repeat (first | (with_reducible first | exact HB.out | apply below_alloc | apply pw_below_drewN | apply below_drew1 | refine below_set ?_ GE432.out) | exact HB.out))); (case aF => exact (fun k_ hk => ⟨Kd.fresh' (Kd.R_lt (by (with_reducible repeat (first | apply Kd.R_alloc | apply Kd.R_drewN | apply Kd.R_drew)); exact HO_433000.out)) k_ hk, Kd.fresh' (Kd.R_lt (by (with_reducible repeat (first | apply Kd.R_alloc | apply Kd.R_drewN | apply Kd.R_drew)); exact HO_433001.out)) k_ hk⟩)); (case aO => exact (by (with_reducible repeat (first | apply Kd.R_alloc | apply Kd.R_drewN | apply Kd.R_drew)); exact HO_10.out)); (case aS => exact (below_size (by repeat (first | (with_reducible first | exact HB.out | apply below_alloc | apply pw_below_drewN | apply below_drew1 | refine below_set ?_ GE432.out) | exact HB.out)))); (case aL => have := LMc20.out; omega); intro v440 w23 ho hb hg hat; rw [← Ny439.out] at ho; have n0_ := Aside0.mk (Kd.R_after (ok := (fun k_ => some k_ ≠ (.slice Ao10 t428.length co10 : Value).ownBlock)) (by (with_reducible repeat (first | apply Kd.R_alloc | apply Kd.R_drewN | apply Kd.R_drew)); exact Kd.R_mono HO_433000.out (fun _ hk => ⟨hk.2, hk.1⟩)) hg hat); have n1_ := Aside0.mk (Kd.R_after (ok := (fun k_ => some k_ ≠ (.slice Ao8 t425.length co8 : Value).ownBlock)) (by (with_reducible repeat (first | apply Kd.R_alloc | apply Kd.R_drewN | apply Kd.R_drew)); exact Kd.R_mono HO_433001.out (fun _ hk => ⟨hk.2, hk.1⟩)) hg hat); have n2_ := Aside0.mk (blk_grown (g := gb432) (o := .cells #[.slice Ao8 t425.length co8, .slice Ao10 t428.length co10] 48 (0, 0)) (by (with_reducible repeat (first | refine blk_drewN ?_ _ | refine blk_drew ?_ | refine blk_alloc ?_ _)); exact BK432.out) hg (Kd.R_ne HO_10.out BK432.out (by decide))); have n3_ := Aside0.mk (hb); have n4_ := Aside0.mk (ho); clear HO_433000; clear HO_433001; clear BK432; clear HB; clear HO_10; have HO_433000 := n0_; have HO_433001 := n1_; have BK432 := n2_; have HB := n3_; have HO441 := n4_; clear n0_ n1_ n2_ n3_ n4_; clear ho hb hg hat))
                go_roundg k2
                case measure => have := HJ4.out; have := HK2.out; omega
                case rel => exact ⟨(y439), (wrap64 (x11_2 + 1)), (by first | rfl | (simp; done) | (simp [*]; done) | (simp [Int.tmod_eq_emod_of_nonneg]; done)), H', ⟨by have := HJ4.out; have := HK2.out; omega⟩, ⟨by (with_reducible repeat (first | apply Kd.R_alloc | apply Kd.R_drewN | apply Kd.R_drew)); exact HO441.out⟩, ⟨by (with_reducible repeat (first | apply Kd.R_alloc | apply Kd.R_drewN | apply Kd.R_drew)); exact Kd.R_mono HO_433000.out (fun _ hk => ⟨hk.2, hk.1⟩)⟩, ⟨by (with_reducible repeat (first | apply Kd.R_alloc | apply Kd.R_drewN | apply Kd.R_drew)); exact Kd.R_mono HO_433001.out (fun _ hk => ⟨hk.2, hk.1⟩)⟩, ⟨by (with_reducible repeat (first | refine blk_drewN ?_ _ | refine blk_drew ?_ | refine blk_alloc ?_ _)); exact BK432.out⟩, ⟨by repeat (first | (with_reducible first | exact HB.out | apply below_alloc | apply pw_below_drewN | apply below_drew1 | refine below_set ?_ GE432.out) | exact HB.out)⟩⟩
              · rw [if_neg c20] at H
                exact absurd H (by simp)
            · rw [if_neg c18] at H
              have c18b0 : decide (x11_2 < (wrap64 ((t425.length : Int) + (t428.length : Int)))) = false := decide_eq_false c18
              clear c18
              replace H := Option.bind_eq_some_iff.mp H
              obtain ⟨⟨t442, t443⟩, A240, H⟩ := H
              replace H : (some (t442, t443)) = some (r1, r2) := H
              have A24 := Aside0.mk A240
              clear A240
              simp only [Option.some.injEq, Prod.mk.injEq] at H
              obtain ⟨rfl, rfl⟩ := H
              have hcz25_0 : wr.cell? ⟨gb432, 0, none⟩ = some (.slice Ao8 t425.length co8) := (blk_cell BK432.out 0).trans rfl
              have hcz25_1 : wr.cell? ⟨gb432, 1, none⟩ = some (.slice Ao10 t428.length co10) := (blk_cell BK432.out 1).trans rfl
              have hfz25_0 := blk_frozen BK432.out 0
              have hfz25_1 := blk_frozen BK432.out 1
              obtain ⟨Ao26, co26, eo26⟩ := Kd.R_slice HO_10.out
              subst eo26
              go_wp2_with (first | ((with_reducible refine gate_callee (f := 41) rfl ?_); refine goesL_ (some 55) rfl rfl Try.func41 (by kernel_rfl) rfl #[.slice Ao26 x10_2.length co26, .int .i64 (t425.length : Int)] rfl (by (try simp only [List.map_toArray, List.map_cons, List.map_nil]); first | done | rfl | (simp only [List.length_drop, List.length_take]; rfl)) ?_; (with_reducible refine (spec_l2Fill.calls k2 _ _ x10_2 (t425.length : Int) t442 t443 _ ?side1 ?side2 A24.out).mono ?_); (case side1 => repeat (first | exact (Kd.R_reads' HO_10.out).2.2 | (with_reducible refine Kd.C_alloc ?_ _) | (with_reducible refine Kd.C_drewN ?_ _) | (with_reducible refine Kd.C_drew ?_))); (case side2 => exact (Kd.R_reads' HO_10.out).2.1); rintro e w27 ⟨rfl, hb⟩; refine ⟨_, rfl, ?_⟩; have n0_ := Aside0.mk (Kd.R_below (by (with_reducible repeat (first | apply Kd.R_alloc | apply Kd.R_drewN | apply Kd.R_drew)); exact HO_10.out) hb); have n1_ := Aside0.mk (Kd.R_below (by (with_reducible repeat (first | apply Kd.R_alloc | apply Kd.R_drewN | apply Kd.R_drew)); exact HO_433000.out) hb); have n2_ := Aside0.mk (Kd.R_below (by (with_reducible repeat (first | apply Kd.R_alloc | apply Kd.R_drewN | apply Kd.R_drew)); exact HO_433001.out) hb); have n3_ := Aside0.mk (blk_below (g := gb432) (o := .cells #[.slice Ao8 t425.length co8, .slice Ao10 t428.length co10] 48 (0, 0)) (by (with_reducible repeat (first | refine blk_drewN ?_ _ | refine blk_drew ?_ | refine blk_alloc ?_ _)); exact BK432.out) hb); have n4_ := Aside0.mk (below_step (by repeat (first | (with_reducible first | exact HB.out | apply below_alloc | apply pw_below_drewN | apply below_drew1 | refine below_set ?_ GE432.out) | exact HB.out)) hb); clear HO_10; clear HO_433000; clear HO_433001; clear BK432; clear HB; have HO_10 := n0_; have HO_433000 := n1_; have HO_433001 := n2_; have BK432 := n3_; have HB := n4_; clear n0_ n1_ n2_ n3_ n4_; (try clear hb); (try clear hb2); (try clear hk); (try clear hi)))
              go_ret2
              exact ⟨by first | rfl | (simp [errW_none, errW_some] <;> rfl) | (simp [*, errW_none, errW_some] <;> rfl) | (simp [errW_none, errW_some]; exact ⟨rfl, rfl⟩), by repeat (first | (with_reducible first | exact HB.out | apply below_alloc | apply pw_below_drewN | apply below_drew1 | refine below_set ?_ GE432.out) | exact HB.out)⟩

end Go.Proofs.Ytflfabdfkfigcaa.P

namespace Go.Proofs.Ytflfabdfkfigcaa.P
open Go.RowKit Go.Proofs.YtflfabdfkfigcaaW.PrintWords Go.Proofs.YtflfabdfkfigcaaW.PrintLast Go.Proofs.YtflfabdfkfigcaaW.PrintMore
attribute [local go_sem] max2_int min2_int max_two min_two max_three min_three max_four min_four   -- for this text's walks alone
set_option linter.unusedVariables false
set_option linter.unusedSimpArgs false

/-! ### laws_FnMakeEvery: function 5 -/
mutual
noncomputable def laws_FnMakeEvery.j0 : Nat → ByteArray → Int → Int → ByteArray → Bool → Bool → Option (Bool)
  | 0, _, _, _, _, _, _ => none
  | k + 1, x3, x4, x5, x6, x7, x10 => if x10 = true then (laws_FnMakeEvery.j1 k x3 x4 x5 x6 x10 (!x7)) else (laws_FnMakeEvery.j1 k x3 x4 x5 x6 x10 true)
noncomputable def laws_FnMakeEvery.j1 : Nat → ByteArray → Int → Int → ByteArray → Bool → Bool → Option (Bool)
  | 0, _, _, _, _, _, _ => none
  | k + 1, x3, x4, x5, x6, x10, x50 => if x50 = true then (some x10) else (laws_FnMakeEvery.l0 k x3 x4 x5 x6 0)
noncomputable def laws_FnMakeEvery.l0 : Nat → ByteArray → Int → Int → ByteArray → Int → Option (Bool)
  | 0, _, _, _, _, _ => none
  | k + 1, x3, x4, x5, x6, x11 => if x11 ≤ 150 then ((impl_SetHas.f k x6 x11).bind fun t453 => ((impl_SetHas.f k x3 (wrap64 ((wrap64 (x4 * x11)) + x5))).bind fun t454 => (if (t453 != t454) = true then (some false) else (laws_FnMakeEvery.l0 k x3 x4 x5 x6 (wrap64 (x11 + 1)))))) else ((impl_SetTidy.f k x6).bind fun bt451 => (if bt451.2 = true then (some (bt451.1.toList == x6.toList)) else (some false)))
end
noncomputable def laws_FnMakeEvery.f (k : Nat) (l0 : List Int) : Option (Bool) := if (l0.length : Int) > 1048576 then (some true) else ((spec_DrawMakeEvery.f k l0).bind fun bt444 => ((impl_MakeEvery.f bt444.1 bt444.2.1 bt444.2.2).bind fun bt447 => ((spec_MakeEvery.f k bt444.1 bt444.2.1 bt444.2.2).bind fun bt449 => (if bt447.1.toList = bt449.1.toList then (laws_FnMakeEvery.j0 k bt444.1 bt444.2.1 bt444.2.2 bt447.1 bt447.2 (bt447.2 == bt449.2)) else (laws_FnMakeEvery.j0 k bt444.1 bt444.2.1 bt444.2.2 bt447.1 bt447.2 false)))))
theorem laws_FnMakeEvery.mono_l : ∀ k, (∀ y0 y1 y2 y3 y4 y5, LeO (laws_FnMakeEvery.j0 k y0 y1 y2 y3 y4 y5) (laws_FnMakeEvery.j0 (k + 1) y0 y1 y2 y3 y4 y5)) ∧ (∀ y0 y1 y2 y3 y4 y5, LeO (laws_FnMakeEvery.j1 k y0 y1 y2 y3 y4 y5) (laws_FnMakeEvery.j1 (k + 1) y0 y1 y2 y3 y4 y5)) ∧ (∀ y0 y1 y2 y3 y4, LeO (laws_FnMakeEvery.l0 k y0 y1 y2 y3 y4) (laws_FnMakeEvery.l0 (k + 1) y0 y1 y2 y3 y4))
  | 0 => ⟨fun _ _ _ _ _ _ r h => by simp [laws_FnMakeEvery.j0] at h, fun _ _ _ _ _ _ r h => by simp [laws_FnMakeEvery.j1] at h, fun _ _ _ _ _ r h => by simp [laws_FnMakeEvery.l0] at h⟩
  | k + 1 => by
    obtain ⟨ih0, ih1, ih2⟩ := laws_FnMakeEvery.mono_l k
    refine ⟨?_, ?_, ?_⟩
    · intro y0 y1 y2 y3 y4 y5
      unfold laws_FnMakeEvery.j0
      repeat' first
      | (with_reducible exact ih0 _ _ _ _ _ _)
      | (with_reducible exact ih1 _ _ _ _ _ _)
      | (with_reducible exact ih2 _ _ _ _ _)
      | (with_reducible exact impl_SetHas.mono _ _ _)
      | (with_reducible exact impl_SetTidy.mono _ _)
      | (with_reducible exact spec_DrawMakeEvery.mono _ _)
      | (with_reducible exact spec_MakeEvery.mono _ _ _ _)
      | (with_reducible exact LeO.refl _)
      | (with_reducible exact LeO.none _)
      | (with_reducible refine LeO.ite ?_ ?_)
      | (with_reducible refine LeO.bind ?_ (fun _ => ?_))
      | exact ih0 _ _ _ _ _ _
      | exact ih1 _ _ _ _ _ _
      | exact ih2 _ _ _ _ _
      | exact impl_SetHas.mono _ _ _
      | exact impl_SetTidy.mono _ _
      | exact spec_DrawMakeEvery.mono _ _
      | exact spec_MakeEvery.mono _ _ _ _
      | exact LeO.none _
      | refine LeO.ite ?_ ?_
      | refine LeO.bind ?_ (fun _ => ?_)
    · intro y0 y1 y2 y3 y4 y5
      unfold laws_FnMakeEvery.j1
      repeat' first
      | (with_reducible exact ih0 _ _ _ _ _ _)
      | (with_reducible exact ih1 _ _ _ _ _ _)
      | (with_reducible exact ih2 _ _ _ _ _)
      | (with_reducible exact impl_SetHas.mono _ _ _)
      | (with_reducible exact impl_SetTidy.mono _ _)
      | (with_reducible exact spec_DrawMakeEvery.mono _ _)
      | (with_reducible exact spec_MakeEvery.mono _ _ _ _)
      | (with_reducible exact LeO.refl _)
      | (with_reducible exact LeO.none _)
      | (with_reducible refine LeO.ite ?_ ?_)
      | (with_reducible refine LeO.bind ?_ (fun _ => ?_))
      | exact ih0 _ _ _ _ _ _
      | exact ih1 _ _ _ _ _ _
      | exact ih2 _ _ _ _ _
      | exact impl_SetHas.mono _ _ _
      | exact impl_SetTidy.mono _ _
      | exact spec_DrawMakeEvery.mono _ _
      | exact spec_MakeEvery.mono _ _ _ _
      | exact LeO.none _
      | refine LeO.ite ?_ ?_
      | refine LeO.bind ?_ (fun _ => ?_)
    · intro y0 y1 y2 y3 y4
      unfold laws_FnMakeEvery.l0
      repeat' first
      | (with_reducible exact ih0 _ _ _ _ _ _)
      | (with_reducible exact ih1 _ _ _ _ _ _)
      | (with_reducible exact ih2 _ _ _ _ _)
      | (with_reducible exact impl_SetHas.mono _ _ _)
      | (with_reducible exact impl_SetTidy.mono _ _)
      | (with_reducible exact spec_DrawMakeEvery.mono _ _)
      | (with_reducible exact spec_MakeEvery.mono _ _ _ _)
      | (with_reducible exact LeO.refl _)
      | (with_reducible exact LeO.none _)
      | (with_reducible refine LeO.ite ?_ ?_)
      | (with_reducible refine LeO.bind ?_ (fun _ => ?_))
      | exact ih0 _ _ _ _ _ _
      | exact ih1 _ _ _ _ _ _
      | exact ih2 _ _ _ _ _
      | exact impl_SetHas.mono _ _ _
      | exact impl_SetTidy.mono _ _
      | exact spec_DrawMakeEvery.mono _ _
      | exact spec_MakeEvery.mono _ _ _ _
      | exact LeO.none _
      | refine LeO.ite ?_ ?_
      | refine LeO.bind ?_ (fun _ => ?_)
theorem laws_FnMakeEvery.mono : ∀ a0 k, LeO (laws_FnMakeEvery.f k a0) (laws_FnMakeEvery.f (k + 1) a0) := by
  intro a0 k
  obtain ⟨ih0, ih1, ih2⟩ := laws_FnMakeEvery.mono_l k
  unfold laws_FnMakeEvery.f
  repeat' first
      | (with_reducible exact ih0 _ _ _ _ _ _)
      | (with_reducible exact ih1 _ _ _ _ _ _)
      | (with_reducible exact ih2 _ _ _ _ _)
      | (with_reducible exact impl_SetHas.mono _ _ _)
      | (with_reducible exact impl_SetTidy.mono _ _)
      | (with_reducible exact spec_DrawMakeEvery.mono _ _)
      | (with_reducible exact spec_MakeEvery.mono _ _ _ _)
      | (with_reducible exact LeO.refl _)
      | (with_reducible exact LeO.none _)
      | (with_reducible refine LeO.ite ?_ ?_)
      | (with_reducible refine LeO.bind ?_ (fun _ => ?_))
      | exact ih0 _ _ _ _ _ _
      | exact ih1 _ _ _ _ _ _
      | exact ih2 _ _ _ _ _
      | exact impl_SetHas.mono _ _ _
      | exact impl_SetTidy.mono _ _
      | exact spec_DrawMakeEvery.mono _ _
      | exact spec_MakeEvery.mono _ _ _ _
      | exact LeO.none _
      | refine LeO.ite ?_ ?_
      | refine LeO.bind ?_ (fun _ => ?_)
set_option maxHeartbeats 8000000 in
set_option maxRecDepth 100000 in
theorem laws_FnMakeEvery.calls (k : Nat) (A0 : Option Addr) (c0 : Nat) (l0 : List Int) (r : Bool) (w : World) (hr0 : Kd.C (Kd.int .u8) w A0 l0.length l0) (hc0 : l0.length ≤ c0) (h : laws_FnMakeEvery.f k l0 = some r) :
    Calls Try.prog 5 #[.slice A0 l0.length c0] w fun e w' => e = .returned (.bool r) ∧ Below w.heap.size w w' := by
  have HR0 := Aside0.mk hr0
  have HC0 := Aside0.mk hc0
  clear hr0 hc0
  have HB := Aside0.mk (Below.refl w.heap.size w)
  have H : (if (l0.length : Int) > 1048576 then (some true) else ((spec_DrawMakeEvery.f k l0).bind fun bt444 => ((impl_MakeEvery.f bt444.1 bt444.2.1 bt444.2.2).bind fun bt447 => ((spec_MakeEvery.f k bt444.1 bt444.2.1 bt444.2.2).bind fun bt449 => (if bt447.1.toList = bt449.1.toList then (laws_FnMakeEvery.j0 k bt444.1 bt444.2.1 bt444.2.2 bt447.1 bt447.2 (bt447.2 == bt449.2)) else (laws_FnMakeEvery.j0 k bt444.1 bt444.2.1 bt444.2.2 bt447.1 bt447.2 false)))))) = some r := h
  clear h
  by_cases c2 : (l0.length : Int) > 1048576
  · rw [if_pos c2] at H
    have c2b0 : decide (1048576 < (l0.length : Int)) = true := decide_eq_true c2
    have c2b1 : decide (1048576 < l0.length) = true := decide_eq_true (by omega)
    clear c2
    obtain rfl := Option.some.inj H
    go_enter Try.func5, Try.ntmps5
    go_wp2
    go_ret
    exact ⟨by first | rfl | (simp [errW_none, errW_some] <;> rfl) | (simp [*, errW_none, errW_some] <;> rfl) | (simp [errW_none, errW_some]; exact ⟨rfl, rfl⟩), by repeat (first | (with_reducible first | exact HB.out | apply below_alloc | apply pw_below_drewN | apply below_drew1) | exact HB.out)⟩
  · rw [if_neg c2] at H
    have c2b0 : decide (1048576 < (l0.length : Int)) = false := decide_eq_false c2
    have c2b1 : decide (1048576 < l0.length) = false := decide_eq_false (by omega)
    clear c2
    replace H := Option.bind_eq_some_iff.mp H
    obtain ⟨⟨t444, t445, t446⟩, A30, H⟩ := H
    replace H : ((impl_MakeEvery.f t444 t445 t446).bind fun bt447 => ((spec_MakeEvery.f k t444 t445 t446).bind fun bt449 => (if bt447.1.toList = bt449.1.toList then (laws_FnMakeEvery.j0 k t444 t445 t446 bt447.1 bt447.2 (bt447.2 == bt449.2)) else (laws_FnMakeEvery.j0 k t444 t445 t446 bt447.1 bt447.2 false)))) = some r := H
    have A3 := Aside0.mk A30
    clear A30
    replace H := Option.bind_eq_some_iff.mp H
    obtain ⟨⟨t447, t448⟩, A40, H⟩ := H
    replace H : ((spec_MakeEvery.f k t444 t445 t446).bind fun bt449 => (if t447.toList = bt449.1.toList then (laws_FnMakeEvery.j0 k t444 t445 t446 t447 t448 (t448 == bt449.2)) else (laws_FnMakeEvery.j0 k t444 t445 t446 t447 t448 false))) = some r := H
    have A4 := Aside0.mk A40
    clear A40
    replace H := Option.bind_eq_some_iff.mp H
    obtain ⟨⟨t449, t450⟩, A50, H⟩ := H
    replace H : (if t447.toList = t449.toList then (laws_FnMakeEvery.j0 k t444 t445 t446 t447 t448 (t448 == t450)) else (laws_FnMakeEvery.j0 k t444 t445 t446 t447 t448 false)) = some r := H
    have A5 := Aside0.mk A50
    clear A50
    have HC6 := Aside0.mk H
    clear H
    go_enter Try.func5, Try.ntmps5
    go_upto_region 6 with (first | ((with_reducible refine gate_callee (f := 18) rfl ?_); refine goesL_ (some 19) rfl rfl Try.func18 (by kernel_rfl) rfl #[.slice A0 l0.length c0] rfl (by (try simp only [List.map_toArray, List.map_cons, List.map_nil]); first | done | rfl | (simp only [List.length_drop, List.length_take]; rfl)) ?_; (with_reducible refine (spec_DrawMakeEvery.calls k _ _ l0 t444 t445 t446 _ ?side1 ?side2 A3.out).mono ?_); (case side1 => repeat (first | exact HR0.out | (with_reducible refine Kd.C_alloc ?_ _) | (with_reducible refine Kd.C_drewN ?_ _) | (with_reducible refine Kd.C_drew ?_))); (case side2 => exact HC0.out); rintro e w7 ⟨rfl, hb⟩; refine ⟨_, rfl, ?_⟩; have n0_ := Aside0.mk (below_step (by repeat (first | (with_reducible first | exact HB.out | apply below_alloc | apply pw_below_drewN | apply below_drew1) | exact HB.out)) hb); clear HB; have HB := n0_; clear n0_; (try clear hb); (try clear hb2); (try clear hk); (try clear hi)) | ((with_reducible refine gate_callee (f := 19) rfl ?_); refine goesL_ (some 27) rfl rfl Try.func19 (by kernel_rfl) rfl #[.string t444, .int .i64 t445, .int .i64 t446] rfl (by (try simp only [List.map_toArray, List.map_cons, List.map_nil]); first | done | rfl | (simp only [List.length_drop, List.length_take]; rfl)) ?_; (with_reducible refine (impl_MakeEvery.calls t444 t445 t446 t447 t448 _ A4.out).mono ?_); rintro e w8 ⟨rfl, hb⟩; refine ⟨_, rfl, ?_⟩; have n0_ := Aside0.mk (below_step (by repeat (first | (with_reducible first | exact HB.out | apply below_alloc | apply pw_below_drewN | apply below_drew1) | exact HB.out)) hb); clear HB; have HB := n0_; clear n0_; (try clear hb); (try clear hb2); (try clear hk); (try clear hi)) | ((with_reducible refine gate_callee (f := 20) rfl ?_); refine goesL_ (some 34) rfl rfl Try.func20 (by kernel_rfl) rfl #[.string t444, .int .i64 t445, .int .i64 t446] rfl (by (try simp only [List.map_toArray, List.map_cons, List.map_nil]); first | done | rfl | (simp only [List.length_drop, List.length_take]; rfl)) ?_; (with_reducible refine (spec_MakeEvery.calls k t444 t445 t446 t449 t450 _ A5.out).mono ?_); rintro e w9 ⟨rfl, hb⟩; refine ⟨_, rfl, ?_⟩; have n0_ := Aside0.mk (below_step (by repeat (first | (with_reducible first | exact HB.out | apply below_alloc | apply pw_below_drewN | apply below_drew1) | exact HB.out)) hb); clear HB; have HB := n0_; clear n0_; (try clear hb); (try clear hb2); (try clear hk); (try clear hi)))
    (try simp only [Act.put, List.setIfInBounds_toArray, List.set_cons_zero, List.set_cons_succ])
    go_cut [10] (fun v10 wc => ∃ (kq : Nat) (x10_5 : Bool), v10 = .bool x10_5 ∧ Aside0 (laws_FnMakeEvery.j0 kq t444 t445 t446 t447 t448 x10_5 = some r) ∧ Aside0 (kq ≤ k) ∧ Aside0 (Below w.heap.size w wc))
    case first =>
      have H := HC6.out
      clear HC6
      by_cases c10 : t447.toList = t449.toList
      · rw [if_pos c10] at H
        have c10b0 : (t447.toList == t449.toList) = true := beq_iff_eq.mpr c10
        have c10b1 : (t447.toList != t449.toList) = false := bne_eq_false_iff_eq.mpr c10
        clear c10
        (first | rw [c10b0] | (simp only [i64_w, i32_w]; rw [c10b0]) | skip)
        have H' := Aside0.mk H
        clear H
        go_wp2
        go_meet
        case rel => exact ⟨_, ((t448 == t450)), (by first | rfl | (simp; done) | (simp [*]; done) | (simp [Int.tmod_eq_emod_of_nonneg]; done)), H', ⟨by first | omega | exact Nat.le_refl _⟩, ⟨by repeat (first | (with_reducible first | exact HB.out | apply below_alloc | apply pw_below_drewN | apply below_drew1) | exact HB.out)⟩⟩
      · rw [if_neg c10] at H
        have c10b0 : (t447.toList == t449.toList) = false := beq_eq_false_iff_ne.mpr c10
        have c10b1 : (t447.toList != t449.toList) = true := bne_iff_ne.mpr c10
        (first | rw [c10b0] | (simp only [i64_w, i32_w]; rw [c10b0]) | skip)
        have H' := Aside0.mk H
        clear H
        go_wp2
        go_meet
        case rel => exact ⟨_, (false), (by first | rfl | (simp; done) | (simp [*]; done) | (simp [Int.tmod_eq_emod_of_nonneg]; done)), H', ⟨by first | omega | exact Nat.le_refl _⟩, ⟨by repeat (first | (with_reducible first | exact HB.out | apply below_alloc | apply pw_below_drewN | apply below_drew1) | exact HB.out)⟩⟩
    case rest =>
      clear HC6
      try clear c1
      try clear c2
      try clear c2b0
      try clear c2b1
      try clear p2
      try clear c5
      try clear c10
      try clear c10b0
      try clear c10b1
      obtain ⟨kq, x10_5, rfl, HA, HJ5, HB⟩ := hcut
      cases kq with
      | zero => exact absurd HA.out (by simp [laws_FnMakeEvery.j0])
      | succ kj5 =>
        have H := HA.out
        clear HA
        simp only [laws_FnMakeEvery.j0] at H
        have HC11 := Aside0.mk H
        clear H
        go_upto_region 7 with (fail)
        go_cut [50] (fun v50 wc => ∃ (kq : Nat) (x50_10 : Bool), v50 = .bool x50_10 ∧ Aside0 (laws_FnMakeEvery.j1 kq t444 t445 t446 t447 x10_5 x50_10 = some r) ∧ Aside0 (kq ≤ kj5) ∧ Aside0 (Below w.heap.size w wc))
        case first =>
          have H := HC11.out
          clear HC11
          by_cases c12 : x10_5 = true
          · subst c12
            have H1 : (laws_FnMakeEvery.j1 kj5 t444 t445 t446 t447 true (!t448)) = some r := by rw [if_pos rfl] at H; exact H
            clear H
            have H := H1
            clear H1
            have H' := Aside0.mk H
            clear H
            go_wp2
            go_meet
            case rel => exact ⟨_, (!t448), (by first | rfl | (simp; done) | (simp [*]; done) | (simp [Int.tmod_eq_emod_of_nonneg]; done)), H', ⟨by have := HJ5.out; first | omega | exact Nat.le_refl _⟩, ⟨by repeat (first | (with_reducible first | exact HB.out | apply below_alloc | apply pw_below_drewN | apply below_drew1) | exact HB.out)⟩⟩
          · replace c12 := Bool.eq_false_iff.mpr c12
            subst c12
            have H1 : (laws_FnMakeEvery.j1 kj5 t444 t445 t446 t447 false true) = some r := by rw [if_neg (show ¬ (false = true) by decide)] at H; exact H
            clear H
            have H := H1
            clear H1
            have H' := Aside0.mk H
            clear H
            go_wp2
            go_meet
            case rel => exact ⟨_, (true), (by first | rfl | (simp; done) | (simp [*]; done) | (simp [Int.tmod_eq_emod_of_nonneg]; done)), H', ⟨by have := HJ5.out; first | omega | exact Nat.le_refl _⟩, ⟨by repeat (first | (with_reducible first | exact HB.out | apply below_alloc | apply pw_below_drewN | apply below_drew1) | exact HB.out)⟩⟩
        case rest =>
          clear HC11
          try clear c1
          try clear c2
          try clear c2b0
          try clear c2b1
          try clear p2
          try clear c5
          try clear c10
          try clear c10b0
          try clear c10b1
          try clear c12
          try clear p2
          obtain ⟨kq, x50_10, rfl, HA, HJ10, HB⟩ := hcut
          cases kq with
          | zero => exact absurd HA.out (by simp [laws_FnMakeEvery.j1])
          | succ kj10 =>
            have H := HA.out
            clear HA
            simp only [laws_FnMakeEvery.j1] at H
            by_cases c13 : x50_10 = true
            · subst c13
              have H1 : (some x10_5) = some r := by rw [if_pos rfl] at H; exact H
              clear H
              have H := H1
              clear H1
              obtain rfl := Option.some.inj H
              go_wp2
              go_ret
              exact ⟨by first | rfl | (simp [errW_none, errW_some] <;> rfl) | (simp [*, errW_none, errW_some] <;> rfl) | (simp [errW_none, errW_some]; exact ⟨rfl, rfl⟩), by repeat (first | (with_reducible first | exact HB.out | apply below_alloc | apply pw_below_drewN | apply below_drew1) | exact HB.out)⟩
            · replace c13 := Bool.eq_false_iff.mpr c13
              subst c13
              have H1 : (laws_FnMakeEvery.l0 kj10 t444 t445 t446 t447 0) = some r := by rw [if_neg (show ¬ (false = true) by decide)] at H; exact H
              clear H
              have H := H1
              clear H1
              have H' := Aside0.mk H
              clear H
              go_wp2
              go_loopg [11] kj10 (fun kq v11 w' => ∃ (x11_3 : Int), v11 = .int .i64 x11_3 ∧ Aside0 (laws_FnMakeEvery.l0 kq t444 t445 t446 t447 x11_3 = some r) ∧ Aside0 (kq ≤ kj10) ∧ Aside0 (Below w.heap.size w w'))
              case atStart => exact ⟨(0), (by first | rfl | (simp; done) | (simp [*]; done) | (simp [Int.tmod_eq_emod_of_nonneg]; done)), H', ⟨Nat.le_refl _⟩, ⟨by repeat (first | (with_reducible first | exact HB.out | apply below_alloc | apply pw_below_drewN | apply below_drew1) | exact HB.out)⟩⟩
              case round =>
                clear H'
                try clear c1
                try clear c2
                try clear c2b0
                try clear c2b1
                try clear p2
                try clear c5
                try clear c10
                try clear c10b0
                try clear c10b1
                try clear c12
                try clear c13
                try clear p2
                obtain ⟨x11_3, rfl, HA, HK3, HB⟩ := hrel
                cases gk with
                | zero => exact absurd HA.out (by simp [laws_FnMakeEvery.l0])
                | succ k3 =>
                  have H := HA.out
                  clear HA
                  simp only [laws_FnMakeEvery.l0] at H
                  by_cases c14 : x11_3 ≤ 150
                  · rw [if_pos c14] at H
                    have c14b0 : decide (x11_3 ≤ 150) = true := decide_eq_true c14
                    clear c14
                    replace H := Option.bind_eq_some_iff.mp H
                    obtain ⟨t453, A150, H⟩ := H
                    replace H : ((impl_SetHas.f k3 t444 (wrap64 ((wrap64 (t445 * x11_3)) + t446))).bind fun t454 => (if (t453 != t454) = true then (some false) else (laws_FnMakeEvery.l0 k3 t444 t445 t446 t447 (wrap64 (x11_3 + 1))))) = some r := H
                    have A15 := Aside0.mk A150
                    clear A150
                    replace H := Option.bind_eq_some_iff.mp H
                    obtain ⟨t454, A160, H⟩ := H
                    replace H : (if (t453 != t454) = true then (some false) else (laws_FnMakeEvery.l0 k3 t444 t445 t446 t447 (wrap64 (x11_3 + 1)))) = some r := H
                    have A16 := Aside0.mk A160
                    clear A160
                    by_cases c17 : (t453 != t454) = true
                    · rw [if_pos c17] at H
                      have c17b0 : (t453 != t454) = true := c17
                      (try (have c17b1 : decide (t453 = t454) = false := by simpa using c17))
                      (try (have c17b2 : (t453 == t454) = false := by simpa using c17))
                      (try (have c17b3 : ¬ (t453 = t454) := by simpa using c17))
                      clear c17
                      obtain rfl := Option.some.inj H
                      go_wp2_with (first | ((with_reducible refine gate_callee (f := 12) rfl ?_); refine goesL_ (some 58) rfl rfl Try.func12 (by kernel_rfl) rfl #[.string t447, .int .i64 x11_3] rfl (by (try simp only [List.map_toArray, List.map_cons, List.map_nil]); first | done | rfl | (simp only [List.length_drop, List.length_take]; rfl)) ?_; (with_reducible refine (impl_SetHas.calls k3 t447 x11_3 t453 _ A15.out).mono ?_); rintro e w18 ⟨rfl, hb⟩; refine ⟨_, rfl, ?_⟩; have n0_ := Aside0.mk (below_step (by repeat (first | (with_reducible first | exact HB.out | apply below_alloc | apply pw_below_drewN | apply below_drew1) | exact HB.out)) hb); clear HB; have HB := n0_; clear n0_; (try clear hb); (try clear hb2); (try clear hk); (try clear hi)) | ((with_reducible refine gate_callee (f := 12) rfl ?_); refine goesL_ (some 65) rfl rfl Try.func12 (by kernel_rfl) rfl #[.string t444, .int .i64 (wrap64 ((wrap64 (t445 * x11_3)) + t446))] rfl (by (try simp only [List.map_toArray, List.map_cons, List.map_nil]); first | done | rfl | (simp only [List.length_drop, List.length_take]; rfl)) ?_; (with_reducible refine (impl_SetHas.calls k3 t444 (wrap64 ((wrap64 (t445 * x11_3)) + t446)) t454 _ A16.out).mono ?_); rintro e w19 ⟨rfl, hb⟩; refine ⟨_, rfl, ?_⟩; have n0_ := Aside0.mk (below_step (by repeat (first | (with_reducible first | exact HB.out | apply below_alloc | apply pw_below_drewN | apply below_drew1) | exact HB.out)) hb); clear HB; have HB := n0_; clear n0_; (try clear hb); (try clear hb2); (try clear hk); (try clear hi)))
                      go_ret
                      exact ⟨by first | rfl | (simp [errW_none, errW_some] <;> rfl) | (simp [*, errW_none, errW_some] <;> rfl) | (simp [errW_none, errW_some]; exact ⟨rfl, rfl⟩), by repeat (first | (with_reducible first | exact HB.out | apply below_alloc | apply pw_below_drewN | apply below_drew1) | exact HB.out)⟩
                    · rw [if_neg c17] at H
                      have c17b0 : (t453 != t454) = false := by simpa using c17
                      (try (have c17b1 : decide (t453 = t454) = true := by simpa using c17))
                      (try (have c17b2 : (t453 == t454) = true := by simpa using c17))
                      clear c17
                      have H' := Aside0.mk H
                      clear H
                      go_wp2_with (first | ((with_reducible refine gate_callee (f := 12) rfl ?_); refine goesL_ (some 58) rfl rfl Try.func12 (by kernel_rfl) rfl #[.string t447, .int .i64 x11_3] rfl (by (try simp only [List.map_toArray, List.map_cons, List.map_nil]); first | done | rfl | (simp only [List.length_drop, List.length_take]; rfl)) ?_; (with_reducible refine (impl_SetHas.calls k3 t447 x11_3 t453 _ A15.out).mono ?_); rintro e w20 ⟨rfl, hb⟩; refine ⟨_, rfl, ?_⟩; have n0_ := Aside0.mk (below_step (by repeat (first | (with_reducible first | exact HB.out | apply below_alloc | apply pw_below_drewN | apply below_drew1) | exact HB.out)) hb); clear HB; have HB := n0_; clear n0_; (try clear hb); (try clear hb2); (try clear hk); (try clear hi)) | ((with_reducible refine gate_callee (f := 12) rfl ?_); refine goesL_ (some 65) rfl rfl Try.func12 (by kernel_rfl) rfl #[.string t444, .int .i64 (wrap64 ((wrap64 (t445 * x11_3)) + t446))] rfl (by (try simp only [List.map_toArray, List.map_cons, List.map_nil]); first | done | rfl | (simp only [List.length_drop, List.length_take]; rfl)) ?_; (with_reducible refine (impl_SetHas.calls k3 t444 (wrap64 ((wrap64 (t445 * x11_3)) + t446)) t454 _ A16.out).mono ?_); rintro e w21 ⟨rfl, hb⟩; refine ⟨_, rfl, ?_⟩; have n0_ := Aside0.mk (below_step (by repeat (first | (with_reducible first | exact HB.out | apply below_alloc | apply pw_below_drewN | apply below_drew1) | exact HB.out)) hb); clear HB; have HB := n0_; clear n0_; (try clear hb); (try clear hb2); (try clear hk); (try clear hi)))
                      go_roundg k3
                      case measure => have := HJ5.out; have := HJ10.out; have := HK3.out; omega
                      case rel => exact ⟨(wrap64 (x11_3 + 1)), (by first | rfl | (simp; done) | (simp [*]; done) | (simp [Int.tmod_eq_emod_of_nonneg]; done)), H', ⟨by have := HJ5.out; have := HJ10.out; have := HK3.out; omega⟩, ⟨by repeat (first | (with_reducible first | exact HB.out | apply below_alloc | apply pw_below_drewN | apply below_drew1) | exact HB.out)⟩⟩
                  · rw [if_neg c14] at H
                    have c14b0 : decide (x11_3 ≤ 150) = false := decide_eq_false c14
                    clear c14
                    replace H := Option.bind_eq_some_iff.mp H
                    obtain ⟨⟨t451, t452⟩, A220, H⟩ := H
                    replace H : (if t452 = true then (some (t451.toList == t447.toList)) else (some false)) = some r := H
                    have A22 := Aside0.mk A220
                    clear A220
                    by_cases c23 : t452 = true
                    · subst c23
                      have H1 : (some (t451.toList == t447.toList)) = some r := by rw [if_pos rfl] at H; exact H
                      clear H
                      have H := H1
                      clear H1
                      obtain rfl := Option.some.inj H
                      go_wp2_with (first | ((with_reducible refine gate_callee (f := 21) rfl ?_); refine goesL_ (some 69) rfl rfl Try.func21 (by kernel_rfl) rfl #[.string t447] rfl (by (try simp only [List.map_toArray, List.map_cons, List.map_nil]); first | done | rfl | (simp only [List.length_drop, List.length_take]; rfl)) ?_; (with_reducible refine (impl_SetTidy.calls k3 t447 t451 true _ A22.out).mono ?_); rintro e w24 ⟨rfl, hb⟩; refine ⟨_, rfl, ?_⟩; have n0_ := Aside0.mk (below_step (by repeat (first | (with_reducible first | exact HB.out | apply below_alloc | apply pw_below_drewN | apply below_drew1) | exact HB.out)) hb); clear HB; have HB := n0_; clear n0_; (try clear hb); (try clear hb2); (try clear hk); (try clear hi)))
                      go_ret
                      exact ⟨by first | rfl | (simp [errW_none, errW_some] <;> rfl) | (simp [*, errW_none, errW_some] <;> rfl) | (simp [errW_none, errW_some]; exact ⟨rfl, rfl⟩), by repeat (first | (with_reducible first | exact HB.out | apply below_alloc | apply pw_below_drewN | apply below_drew1) | exact HB.out)⟩
                    · replace c23 := Bool.eq_false_iff.mpr c23
                      subst c23
                      have H1 : (some false) = some r := by rw [if_neg (show ¬ (false = true) by decide)] at H; exact H
                      clear H
                      have H := H1
                      clear H1
                      obtain rfl := Option.some.inj H
                      go_wp2_with (first | ((with_reducible refine gate_callee (f := 21) rfl ?_); refine goesL_ (some 69) rfl rfl Try.func21 (by kernel_rfl) rfl #[.string t447] rfl (by (try simp only [List.map_toArray, List.map_cons, List.map_nil]); first | done | rfl | (simp only [List.length_drop, List.length_take]; rfl)) ?_; (with_reducible refine (impl_SetTidy.calls k3 t447 t451 false _ A22.out).mono ?_); rintro e w25 ⟨rfl, hb⟩; refine ⟨_, rfl, ?_⟩; have n0_ := Aside0.mk (below_step (by repeat (first | (with_reducible first | exact HB.out | apply below_alloc | apply pw_below_drewN | apply below_drew1) | exact HB.out)) hb); clear HB; have HB := n0_; clear n0_; (try clear hb); (try clear hb2); (try clear hk); (try clear hi)))
                      go_ret
                      exact ⟨by first | rfl | (simp [errW_none, errW_some] <;> rfl) | (simp [*, errW_none, errW_some] <;> rfl) | (simp [errW_none, errW_some]; exact ⟨rfl, rfl⟩), by repeat (first | (with_reducible first | exact HB.out | apply below_alloc | apply pw_below_drewN | apply below_drew1) | exact HB.out)⟩

/-- THE ONE PURE STATEMENT of laws_FnMakeEvery: yours. -/
noncomputable def laws_FnMakeEvery.Pure : Prop := ∀ (l0 : List Int), l0.length ≤ maxLen → l0.length * 1 ≤ 140737488351232 → (∀ x ∈ l0, (Lit.int .u8 x).wf = true) → ∃ k, laws_FnMakeEvery.f k l0 = some true
theorem laws_FnMakeEvery.walk (P : laws_FnMakeEvery.Pure) (a0 : Option Addr) (len0 cap0 : Nat) (z0 : List Int) (w : World) (w0 : (a0 = none ∧ len0 = 0 ∧ cap0 = 0 ∧ z0 = []) ∨ ∃ x, a0 = some x ∧ len0 ≤ cap0 ∧ cap0 ≤ maxLen ∧ z0.length = cap0 ∧ (∀ i, i < z0.length → w.cell? (x.add i) = some (.int .u8 (z0.getD i 0))) ∧ ∀ n ∈ z0, (Lit.int .u8 n).wf = true) (y0 : len0 * 1 ≤ 140737488351232) :
    Calls Try.prog 5 #[.slice a0 len0 cap0] w fun e w' => e = .returned (.bool true) ∧ Below w.heap.size w w' := by
  obtain ⟨l0, rfl, hr0, hm0, hw0, hc0⟩ := ReadsInt.ofRowC w0
  obtain ⟨k, h⟩ := P l0 hm0 y0 hw0
  refine (laws_FnMakeEvery.calls k _ _ l0 true w (Kd.C_of_reads (d := (0 : Int)) (h1 := fun _ => rfl) hr0) hc0 h).mono ?_
  rintro e w' ⟨rfl, hd⟩
  exact ⟨rfl, hd⟩

end Go.Proofs.Ytflfabdfkfigcaa.P

-- spec.MakeEvery asks numbers far apart.
namespace Go.Proofs.Ytflfabdfkfigcaa.P
open Go.RowKit Go.Proofs.YtflfabdfkfigcaaW.PrintWords Go.Proofs.YtflfabdfkfigcaaW.PrintLast Go.Proofs.YtflfabdfkfigcaaW.PrintMore
set_option linter.unusedVariables false
set_option linter.unusedSimpArgs false

theorem smakeEvery_l0 (a b : List Bool) (hb : b ≠ []) (ha : a.length ≤ 60) (hbl : b.length ≤ 60) (k r : Nat) (h1k : 1 ≤ k) (hk : k ≤ 20) (hr : r ≤ 100) : ∀ (d x : Nat), x ≤ a.length + b.length → a.length + b.length - x = d →
    Ev (fun n => spec_MakeEvery.l0 n k r (mkT (evq (hasB a b) k r) x) x a b) (txt (cn (evq (hasB a b) k r))) := by
  have hpos := List.length_pos_iff.2 hb
  have hper := evq_per (hasB_per a b) h1k r
  have hw : wrap64 ((a.length : Int) + (b.length : Int)) = ((a.length + b.length : Nat) : Int) := wadd (by omega)
  intro d
  induction d with
  | zero =>
    intro x h1 h2
    have e : x = a.length + b.length := by omega
    subst e
    refine Ev.step (f := fun n => (spec_l2Fill.f n (mkT (evq (hasB a b) k r) (a.length + b.length)) (a.length : Int)).bind fun bt309 => (some (bt309.1, bt309.2))) (fun n => ?_) (Ev.bind (fill_f hpos hper (by omega)) (Ev.now _))
    simp only [spec_MakeEvery.l0]
    rw [hw, if_neg (by omega)]
  | succ d ih =>
    intro x h1 h2
    have hm : k * x ≤ 20 * 120 := Nat.mul_le_mul hk (by omega)
    have e3 : k * x + r ≤ 100000 := by omega
    have e1 : wrap64 ((k : Int) * (x : Int)) = ((k * x : Nat) : Int) := by rw [← Int.natCast_mul]; generalize k * x = y at hm ⊢; exact w64 (by omega) (by omega)
    have e2 : wrap64 (((k * x : Nat) : Int) + (r : Int)) = ((k * x + r : Nat) : Int) := by generalize k * x = y at hm ⊢; exact wadd (by omega)
    refine Ev.step (fun n => ?_) (ih (x + 1) (by omega) (by omega))
    simp only [spec_MakeEvery.l0]
    rw [hw, if_pos (by clear e1 e2; omega), e1, e2, shas_f a b hb (by clear e1 e2 hw; omega) _ (Nat.le_trans e3 (by decide))]
    simp only [Option.bind_some]
    rw [if_pos (by rw [mkT_length]; omega), wsucc (by omega), mkT_succ]; rfl
theorem makeEvery_f (s : ByteArray) (hs : s.size ≤ 70368744177664) (k r : Int) : impl_MakeEvery.f s k r = some (evr (chrs s) k r) := by unfold impl_MakeEvery.f; rw [if_pos hs]
theorem smakeEvery_f (s : ByteArray) (hs : s.size ≤ 70368744177664) (k r : Int) : Ev (fun n => spec_MakeEvery.f n s k r) (evr (chrs s) k r) := by
  have out : ∀ a b, Ev (fun n => spec_MakeEvery.j0 n k r true a b) ((⟨#[]⟩ : ByteArray), false) := fun a b => by
    refine Ev.step (f := fun n => some ((⟨#[]⟩ : ByteArray), false)) (fun n => ?_) (Ev.now _)
    simp only [spec_MakeEvery.j0]; rfl
  refine Ev.congr (fun n => rfl) (Ev.bind (read_f s hs) ?_)
  unfold parsed
  cases h : parse (chrs s) with
  | none =>
    have e : evr (chrs s) k r = (⟨#[]⟩, false) := by unfold evr; rw [h]; rfl
    rw [e]; simp only [Bool.false_eq_true, if_false]; exact out _ _
  | some ab =>
    have hb := parse_some (a := ab.1) (b := ab.2) h
    simp only [if_true, l6in_f, Option.bind_some]
    by_cases hk : 1 ≤ k ∧ k ≤ 20
    · by_cases hr : 0 ≤ r ∧ r ≤ 100
      · obtain ⟨k, rfl⟩ := Int.eq_ofNat_of_zero_le (show 0 ≤ k by omega)
        obtain ⟨r, rfl⟩ := Int.eq_ofNat_of_zero_le hr.1
        have e : evr (chrs s) k r = txt (cn (evq (hasB ab.1 ab.2) k r)) := by
          unfold evr; rw [h, setf_some (a := ab.1) (b := ab.2) h, decide_eq_true hk, decide_eq_true hr, Int.toNat_natCast, Int.toNat_natCast]; rfl
        rw [e]
        simp only [decide_eq_true hk, decide_eq_true hr, if_true, Bool.not_true]
        refine Ev.step (fun n => ?_) (smakeEvery_l0 ab.1 ab.2 hb.2.2 hb.1 hb.2.1 k r (by omega) (by omega) (by omega) _ 0 (by omega) rfl)
        simp only [spec_MakeEvery.j0]
        rw [if_neg (by decide)]; rfl
      · have e : evr (chrs s) k r = (⟨#[]⟩, false) := by unfold evr; rw [decide_eq_false hr, Bool.and_false, Bool.and_false]; rfl
        rw [e]; simp only [decide_eq_true hk, decide_eq_false hr, if_true, Bool.not_false]; exact out _ _
    · have e : evr (chrs s) k r = (⟨#[]⟩, false) := by unfold evr; rw [decide_eq_false hk, Bool.false_and, Bool.and_false]; rfl
      rw [e]; simp only [decide_eq_false hk, Bool.false_eq_true, if_false]; exact out _ _
end Go.Proofs.Ytflfabdfkfigcaa.P

-- For every code the law FnMakeEvery holds.
namespace Go.Proofs.Ytflfabdfkfigcaa.P
open Go.RowKit Go.Proofs.YtflfabdfkfigcaaW.PrintWords Go.Proofs.YtflfabdfkfigcaaW.PrintLast Go.Proofs.YtflfabdfkfigcaaW.PrintMore
set_option linter.unusedVariables false
set_option linter.unusedSimpArgs false

theorem drawEvery_f (l : List Int) (h : ∀ x ∈ l, (Lit.int .u8 x).wf = true) : ∃ (s : ByteArray) (n0 : Int) (n1 : Int), Few s ∧ -2 ≤ n0 ∧ n0 ≤ 2000 ∧ -2 ≤ n1 ∧ n1 ≤ 2000 ∧ Ev (fun k => spec_DrawMakeEvery.f k l) (s, n0, n1) := by
  obtain ⟨s, q, hf, hq, K0, h0⟩ := set91_f (code_of h) 0 (by omega)
  dsimp only at h0
  have g0 : ∀ k, K0 ≤ k → spec_l91Set.f k (l.take 2000) 0 = some (s, (q : Int)) := h0
  obtain ⟨v0, p0, a0, b0, c0, K1, h1⟩ := num91_f (code_of h) q 19 (by omega) (by omega)
  dsimp only at h1
  have g1 : ∀ k, K1 ≤ k → spec_l91Number.f k (l.take 2000) (q : Int) 19 = some (v0, (p0 : Int)) := h1
  obtain ⟨v1, p1, a1, b1, c1, K2, h2⟩ := num91_f (code_of h) p0 100 (by omega) (by omega)
  dsimp only at h2
  have g2 : ∀ k, K2 ≤ k → spec_l91Number.f k (l.take 2000) (p0 : Int) 100 = some (v1, (p1 : Int)) := h2
  have w0 : wrap64 (1 + v0) = 1 + v0 := w64 (by omega) (by omega)
  refine ⟨s, 1 + v0, v1, hf, by omega, by omega, by omega, by omega, K0 + K1 + K2, fun k hk => ?_⟩
  dsimp only
  unfold spec_DrawMakeEvery.f
  rw [open_f, Option.bind_some, g0 k (by omega), Option.bind_some, g1 k (by omega), Option.bind_some, g2 k (by omega), Option.bind_some]
  rw [w0]
theorem lawMakeEvery_l0 (s x0 : ByteArray) (hs : s.size ≤ 70368744177664) (hx : x0.size ≤ 122) (a r : Nat) (ha : a ≤ 20) (hr : r ≤ 100) (hq : setf (chrs x0) = evq (setf (chrs s)) a r) (ht : tdy (chrs x0) = (x0, true)) : ∀ (d n : Nat), n ≤ 151 → 151 - n = d →
    Ev (fun k => laws_FnMakeEvery.l0 k s a r x0 n) true := by
  intro d
  induction d with
  | zero =>
    intro n hn hd
    have e : n = 151 := by omega
    subst e
    obtain ⟨K, hK⟩ := tdy_again x0 hx ht
    dsimp only at hK
    refine ⟨K + 1, fun k hk => ?_⟩
    obtain ⟨k, rfl, hk2⟩ := down1 hk
    simp only [laws_FnMakeEvery.l0]
    rw [if_neg (by omega), hK k hk2, Option.bind_some, if_pos (by trivial), BEq.rfl]
  | succ d ih =>
    intro n hn hd
    obtain ⟨K3, h3⟩ := ih (n + 1) (by omega) (by omega)
    dsimp only at h3
    obtain ⟨K1, h1⟩ := isetHas_f x0 (by omega) n (by omega)
    dsimp only at h1
    rw [hq] at h1
    have hm : a * n ≤ 20 * 150 := Nat.mul_le_mul ha (by omega)
    have hm2 : a * n + r ≤ 1000000 := by omega
    have h1 : ∀ k, K1 ≤ k → impl_SetHas.f k x0 n = some (setf (chrs s) (a * n + r)) := h1
    obtain ⟨K2, h2⟩ := isetHas_f s hs (a * n + r) hm2
    dsimp only at h2
    refine ⟨K1 + K2 + K3 + 1, fun k hk => ?_⟩
    obtain ⟨k, rfl, hk2⟩ := down1 hk
    simp only [laws_FnMakeEvery.l0]
    rw [if_pos (by omega), h1 k (by omega), Option.bind_some, wmul (by omega), wadd (by omega), h2 k (by omega), Option.bind_some, if_neg (bne_no _), wsucc (by omega)]
    exact h3 k (by omega)
theorem lawMakeEvery_ev (l : List Int) (h : ∀ x ∈ l, (Lit.int .u8 x).wf = true) : Ev (fun k => laws_FnMakeEvery.f k l) true := by
  by_cases hl : (l.length : Int) > 1048576
  · exact ⟨0, fun k _ => by dsimp only; unfold laws_FnMakeEvery.f; rw [if_pos hl]⟩
  · obtain ⟨s, n0, n1, hf, lo0, hi0, lo1, hi1, K1, h1⟩ := drawEvery_f l h
    dsimp only at h1
    have hz := hf.size
    have hs : s.size ≤ 70368744177664 := by omega
    obtain ⟨K2, h2⟩ := smakeEvery_f s hs n0 n1
    dsimp only at h2
    have h3 := makeEvery_f s hs n0 n1
    have main : Ev (fun k => laws_FnMakeEvery.j0 k s n0 n1 (evr (chrs s) n0 n1).1 (evr (chrs s) n0 n1).2 true) true := by
      cases h4 : (evr (chrs s) n0 n1).2 with
      | false =>
        refine Ev.step (f := fun k => laws_FnMakeEvery.j1 k s n0 n1 (evr (chrs s) n0 n1).1 true true) (fun k => ?_) (Ev.step (f := fun k => some true) (fun k => ?_) (Ev.now _))
        · simp only [laws_FnMakeEvery.j0]; rfl
        · simp only [laws_FnMakeEvery.j1]; rfl
      | true =>
        unfold evr at h4 ⊢
        obtain ⟨hc, hA⟩ := ite_ok h4
        rw [if_pos hc]
        rw [Bool.and_eq_true, Bool.and_eq_true] at hc
        have hr := of_decide_eq_true hc.2.1
        have hr2 := of_decide_eq_true hc.2.2
        obtain ⟨kk, rfl⟩ := Int.eq_ofNat_of_zero_le (show 0 ≤ n0 by omega)
        obtain ⟨r, rfl⟩ := Int.eq_ofNat_of_zero_le hr2.1
        rw [Int.toNat_natCast, Int.toNat_natCast] at hA ⊢
        obtain ⟨⟨a, b⟩, hp⟩ := Option.isSome_iff_exists.1 hc.1
        have hb := parse_some hp
        have hpos := List.length_pos_iff.2 hb.2.2
        have hset := setf_some hp
        have hper : Per (evq (setf (chrs s)) kk r) a.length b.length := by rw [hset]; exact evq_per (hasB_per a b) (by omega) r
        refine Ev.step (f := fun k => laws_FnMakeEvery.j1 k s kk r (txt (cn (evq (setf (chrs s)) kk r))).1 true false) (fun k => ?_) (Ev.step (fun k => ?_) (lawMakeEvery_l0 s _ hs (txt_size _) kk r (by omega) (by omega) (txt_setf hpos hper hA) (txt_tdy hpos hper hA) _ 0 (by omega) rfl))
        · simp only [laws_FnMakeEvery.j0]; rfl
        · simp only [laws_FnMakeEvery.j1]; rfl
    obtain ⟨K4, h4⟩ := main
    dsimp only at h4
    refine ⟨K1 + K2 + K4, fun k hk => ?_⟩
    dsimp only
    unfold laws_FnMakeEvery.f
    rw [if_neg hl, h1 k (by omega), Option.bind_some]
    try dsimp only
    rw [h3, Option.bind_some, h2 k (by omega), Option.bind_some, if_pos rfl, BEq.rfl]
    exact h4 k (by omega)
theorem lawMakeEvery_pure : laws_FnMakeEvery.Pure := fun l _ _ h => (lawMakeEvery_ev l h).rounds
end Go.Proofs.Ytflfabdfkfigcaa.P

-- For every code the law FnMakeEvery holds.
namespace Go.Proofs.Ytflfabdfkfigcaa.Pure
theorem FnMakeEvery : Go.Proofs.Ytflfabdfkfigcaa.P.laws_FnMakeEvery.Pure := Go.Proofs.Ytflfabdfkfigcaa.P.lawMakeEvery_pure
end Go.Proofs.Ytflfabdfkfigcaa.Pure
