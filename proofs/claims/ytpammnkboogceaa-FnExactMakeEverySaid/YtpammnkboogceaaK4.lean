/- What these laws reach, joined by a program of this session: contracts (written by that program over the kit's print, or by hand) and plain lemmas. -/
import Derived.Test.YtpammnkboogceaaK1
import Derived.Test.YtpammnkboogceaaK2
import Derived.Test.YtpammnkboogceaaK3
-- impl.MakeEvery: all n for which k n + r is in the set.
namespace Go.Proofs.Ytpammnkboogceaa.P
open Go.RowKit Go.Proofs.YtpammnkboogceaaW.PrintWords Go.Proofs.YtpammnkboogceaaW.PrintLast Go.Proofs.YtpammnkboogceaaW.PrintMore
set_option linter.unusedVariables false
set_option linter.unusedSimpArgs false

/-- Each k-th number from r on. -/
def evq (f : Nat → Bool) (k r : Nat) : Nat → Bool := fun n => f (k * n + r)
theorem evq_per {f : Nat → Bool} {m p : Nat} (h : Per f m p) {k : Nat} (hk : 1 ≤ k) (r : Nat) : Per (evq f k r) m p := fun n hn => by
  have h1 := h.mul k (k * n + r) (by have := Nat.mul_le_mul hk hn; omega)
  unfold evq
  rw [Nat.mul_add, show k * n + k * p + r = k * n + r + k * p by omega, h1]
/-- What impl.MakeEvery answers. -/
noncomputable def evr (s : List UInt8) (k r : Int) : ByteArray × Bool := if (parse s).isSome && (decide (1 ≤ k ∧ k ≤ 20) && decide (0 ≤ r ∧ r ≤ 100)) then txt (cn (evq (setf s) k.toNat r.toNat)) else (⟨#[]⟩, false)
noncomputable def impl_MakeEvery.f (s : ByteArray) (k r : Int) : Option (ByteArray × Bool) := if s.size ≤ 70368744177664 then some (evr (chrs s) k r) else none

theorem two_cells (w : World) (x y : Value) (t t' : TypeId) : ((w.alloc (.cells #[x] t)).alloc (.cells #[y] t')).cell? ⟨w.heap.size, 0, none⟩ = some x ∧ ((w.alloc (.cells #[x] t)).alloc (.cells #[y] t')).cell? ⟨w.heap.size + 1, 0, none⟩ = some y := by
  refine ⟨Lib.cell?_alloc_some _ (by simp), ?_⟩
  simp
set_option maxHeartbeats 8000000 in
set_option maxRecDepth 100000 in
theorem every_q_calls (t r : List Bool) (hr : r ≠ []) (hl : t.length ≤ 60 ∧ r.length ≤ 60) (A0 : Option Addr) (c0 : Nat) (A1 : Option Addr) (c1 n k a b b2 : Nat) (hn : n ≤ 10000) (hk : k ≤ 1000) (ha : a ≤ 1000) (W : World)
    (hC0 : Kd.C Kd.bool W A0 t.length t) (h0 : t.length ≤ c0) (hC1 : Kd.C Kd.bool W A1 r.length r) (h1 : r.length ≤ c1) (hb : W.cell? ⟨b, 0, none⟩ = some (.int .i64 (k : Int))) (hb2 : W.cell? ⟨b2, 0, none⟩ = some (.int .i64 (a : Int))) :
    Calls Try.prog 30 #[.agg #[.slice A0 t.length c0, .slice A1 r.length c1], .int .i64 n, .pointer (some ⟨b, 0, none⟩), .pointer (some ⟨b2, 0, none⟩)] W fun e w' => e = .returned (.bool (evq (hasB t r) k a n)) ∧ Below W.heap.size W w' := by
  have hm : k * n ≤ 1000 * 10000 := Nat.mul_le_mul hk hn
  have hs1 : IntKind.i64.wrap ((k : Int) * (n : Int)) = ((k * n : Nat) : Int) := by rw [IntKind.wrap_i64, ← Int.natCast_mul]; generalize k * n = x at *; omega
  have hs : IntKind.i64.wrap (((k * n : Nat) : Int) + (a : Int)) = ((k * n + a : Nat) : Int) := by rw [IntKind.wrap_i64]; generalize k * n = x at *; omega
  have HC := fun (o : Obj) => Aside0.mk (impl_set_has.calls A0 c0 t A1 c1 r ((k * n + a : Nat) : Int) (hasB t r (k * n + a)) (W.alloc o) (Kd.C_alloc hC0 o) h0 (Kd.C_alloc hC1 o) h1 (ihas_f t r hr (by omega) (k * n + a) (by omega)))
  have hc1 : ∀ o, (W.alloc o).cell? ⟨b, 0, none⟩ = some (.int .i64 (k : Int)) := fun o => Lib.cell?_alloc_some _ hb
  have hc2 : ∀ o, (W.alloc o).cell? ⟨b2, 0, none⟩ = some (.int .i64 (a : Int)) := fun o => Lib.cell?_alloc_some _ hb2
  have hu := Try.underlying44
  have HS := Aside0.mk hs
  obtain ⟨x, hx⟩ : ∃ x : Nat, k * n = x := ⟨_, rfl⟩
  obtain ⟨y, hy⟩ : ∃ y : Nat, k * n + a = y := ⟨_, rfl⟩
  have hv : evq (hasB t r) k a n = hasB t r y := by rw [← hy]; rfl
  rw [hv]
  rw [hy] at hs HC
  rw [hx] at hs1 hs
  clear hC0 hC1 h0 h1 hl hr hb hb2 hv hx hy hm HS
  go_enter Try.func30, Try.ntmps30
  go_wp2_with (go_at_call 31; refine (HC _).out.mono ?_; rintro e w' ⟨rfl, hb⟩)
  go_ret
  exact ⟨rfl, below_step (below_alloc (Below.refl _ _) _) hb⟩

set_option maxHeartbeats 8000000 in
set_option maxRecDepth 100000 in
theorem impl_MakeEvery.calls (a0 : ByteArray) (a1 a2 : Int) (r1 : ByteArray) (r2 : Bool) (w : World) (h : impl_MakeEvery.f a0 a1 a2 = some (r1, r2)) :
    Calls Try.prog 10 #[.string a0, .int .i64 a1, .int .i64 a2] w fun e w' => e = .returned (.tuple #[.string r1, .bool r2]) ∧ Below w.heap.size w w' := by
  unfold impl_MakeEvery.f at h
  split at h
  · rename_i hs
    simp only [Option.some.injEq] at h
    have hin1 := in_f a1 1 20
    have hin2 := in_f a2 0 100
    obtain ⟨bm1, hbm1⟩ : ∃ bm, decide (1 ≤ a1 ∧ a1 ≤ 20) = bm := ⟨_, rfl⟩
    obtain ⟨bm2, hbm2⟩ : ∃ bm, decide (0 ≤ a2 ∧ a2 ≤ 100) = bm := ⟨_, rfl⟩
    have eg : ∀ args w, (callFunc 30 args).run Try.prog w = .ok (.enter 30 args) w := enters_of Try.func30 (by kernel_rfl) rfl
    have hx : ∀ (w1 : World) (b b2 : Nat), w1.cell? ⟨b, 0, none⟩ = some (.int .i64 a1) → w1.cell? ⟨b2, 0, none⟩ = some (.int .i64 a2) → b < w1.heap.size → b2 < w1.heap.size → Calls Try.prog 28 #[.string a0, .bool (bm1 && bm2), .func (.func 30) #[] #[.pointer (some ⟨b, 0, none⟩), .pointer (some ⟨b2, 0, none⟩)]] w1 fun e w' => e = .returned (.tuple #[.string r1, .bool r2]) ∧ Below w1.heap.size w1 w' := by
      intro w1 b b2 hc hc2 hlt hlt2
      have := single_calls a0 hs (bm1 && bm2) 30 #[.pointer (some ⟨b, 0, none⟩), .pointer (some ⟨b2, 0, none⟩)] (evq (setf (chrs a0)) a1.toNat a2.toNat) w1 eg
        (fun hm t r hp => by
          rw [← hbm1] at hm
          have hm := of_decide_eq_true (Bool.and_eq_true_iff.1 hm).1
          rw [setf_some hp]; exact evq_per (hasB_per t r) (by omega) _)
        (fun hm t r hp W A0 c0 A1 c1 n hW hC0 h0 hC1 h1 hn => by
          have hb := parse_some hp
          rw [← hbm1, ← hbm2] at hm
          have hm1 := of_decide_eq_true (Bool.and_eq_true_iff.1 hm).1
          have hm2 := of_decide_eq_true (Bool.and_eq_true_iff.1 hm).2
          obtain ⟨k, rfl⟩ := Int.eq_ofNat_of_zero_le (show 0 ≤ a1 by omega)
          obtain ⟨a, rfl⟩ := Int.eq_ofNat_of_zero_le hm2.1
          rw [setf_some hp, Int.toNat_natCast, Int.toNat_natCast]
          exact every_q_calls t r hb.2.2 ⟨hb.1, hb.2.1⟩ A0 c0 A1 c1 n k a b b2 (by omega) (by omega) (by omega) W hC0 h0 hC1 h1 ((hW.cell (p := ⟨b, 0, none⟩) hlt).trans hc) ((hW.cell (p := ⟨b2, 0, none⟩) hlt2).trans hc2))
      unfold evr at h
      rw [hbm1, hbm2] at h
      rw [h] at this
      exact this
    rw [hbm1] at hin1
    rw [hbm2] at hin2
    clear hbm1 hbm2
    have HX := Aside0.mk hx
    have HI1 := fun w => Aside0.mk (impl_in.calls a1 1 20 _ w hin1)
    have HI2 := fun w => Aside0.mk (impl_in.calls a2 0 100 _ w hin2)
    have HC := Aside0.mk (two_cells w (.int .i64 a1) (.int .i64 a2) 3 3)
    clear hx h hs hin1 hin2 eg
    cases bm1 with
    | true =>
      go_enter Try.func10, Try.ntmps10
      go_wp2_with (first
        | (go_at_call 29; with_reducible refine (HI1 _).out.mono ?_; rintro e w1 ⟨rfl, hd⟩; have hb := drawn0_below hd; have c1 := (hb.cell (p := ⟨w.heap.size, 0, none⟩) (by simp; omega)).trans HC.out.1; have c2 := (hb.cell (p := ⟨w.heap.size + 1, 0, none⟩) (by simp)).trans HC.out.2; have hl1 : w.heap.size + 1 < w1.heap.size := Nat.lt_of_lt_of_le (by simp) hb.size; have HB := Aside0.mk (below_step (below_alloc (below_alloc (Below.refl w.heap.size w) _) _) hb); clear hd hb)
        | (go_at_call 29; with_reducible refine (HI2 _).out.mono ?_; rintro e w2 ⟨rfl, hd⟩; have hb2 := drawn0_below hd; have d1 := (hb2.cell (p := ⟨w.heap.size, 0, none⟩) (by show w.heap.size < w1.heap.size; omega)).trans c1; have d2 := (hb2.cell (p := ⟨w.heap.size + 1, 0, none⟩) hl1).trans c2; have hl2 : w.heap.size + 1 < w2.heap.size := Nat.lt_of_lt_of_le hl1 hb2.size; have HB2 := Aside0.mk (below_step HB.out hb2); clear hd hb2 HB)
        | (go_at_call 28; refine (HX.out _ _ _ d1 d2 (by omega) hl2).mono ?_; rintro e w3 ⟨rfl, hb3⟩))
      go_ret2
      exact ⟨rfl, below_step HB2.out hb3⟩
    | false =>
      go_enter Try.func10, Try.ntmps10
      go_wp2_with (first
        | (go_at_call 29; with_reducible refine (HI1 _).out.mono ?_; rintro e w1 ⟨rfl, hd⟩; have hb := drawn0_below hd; have c1 := (hb.cell (p := ⟨w.heap.size, 0, none⟩) (by simp; omega)).trans HC.out.1; have c2 := (hb.cell (p := ⟨w.heap.size + 1, 0, none⟩) (by simp)).trans HC.out.2; have hl1 : w.heap.size + 1 < w1.heap.size := Nat.lt_of_lt_of_le (by simp) hb.size; have HB := Aside0.mk (below_step (below_alloc (below_alloc (Below.refl w.heap.size w) _) _) hb); clear hd hb)
        | (go_at_call 28; refine (HX.out _ _ _ c1 c2 (by omega) hl1).mono ?_; rintro e w3 ⟨rfl, hb3⟩))
      go_ret2
      exact ⟨rfl, below_step HB.out hb3⟩
  · cases h
end Go.Proofs.Ytpammnkboogceaa.P

namespace Go.Proofs.Ytpammnkboogceaa.P
open Go.RowKit Go.Proofs.YtpammnkboogceaaW.PrintWords Go.Proofs.YtpammnkboogceaaW.PrintLast Go.Proofs.YtpammnkboogceaaW.PrintMore
attribute [local go_sem] max2_int min2_int max_two min_two max_three min_three max_four min_four   -- for this text's walks alone
set_option linter.unusedVariables false
set_option linter.unusedSimpArgs false

/-! ### spec_MakeEvery: function 9 -/
mutual
def spec_MakeEvery.j0 : Nat → Int → Int → Bool → List Bool → List Bool → Option (ByteArray × Bool)
  | 0, _, _, _, _, _ => none
  | k + 1, x1, x2, x28, x213000, x213001 => if x28 = true then (some ((⟨#[]⟩ : ByteArray), false)) else (spec_MakeEvery.l0 k x1 x2 (([] : List Bool)) 0 x213000 x213001)
def spec_MakeEvery.l0 : Nat → Int → Int → List Bool → Int → List Bool → List Bool → Option (ByteArray × Bool)
  | 0, _, _, _, _, _, _ => none
  | k + 1, x1, x2, x10, x11, x213000, x213001 => if x11 < (wrap64 ((x213000.length : Int) + (x213001.length : Int))) then ((spec_l1Has.f x213000 x213001 (wrap64 ((wrap64 (x1 * x11)) + x2))).bind fun t218 => (if x10.length < 140737488355328 then (spec_MakeEvery.l0 k x1 x2 (x10 ++ [t218]) (wrap64 (x11 + 1)) x213000 x213001) else (none))) else ((spec_l2Fill.f k x10 (x213000.length : Int)).bind fun bt222 => (some (bt222.1, bt222.2)))
end
def spec_MakeEvery.f (k : Nat) (a0 : ByteArray) (a1 : Int) (a2 : Int) : Option (ByteArray × Bool) := (spec_l1Read.f k a0).bind fun bt205 => (if bt205.2.2 = true then ((spec_l6In.f a1 1 20).bind fun t213 => (if t213 = true then ((spec_l6In.f a2 0 100).bind fun t214 => (spec_MakeEvery.j0 k a1 a2 (!t214) bt205.1 bt205.2.1)) else (spec_MakeEvery.j0 k a1 a2 true bt205.1 bt205.2.1))) else (spec_MakeEvery.j0 k a1 a2 true bt205.1 bt205.2.1))
theorem spec_MakeEvery.mono_l : ∀ k, (∀ y0 y1 y2 y3 y4, LeO (spec_MakeEvery.j0 k y0 y1 y2 y3 y4) (spec_MakeEvery.j0 (k + 1) y0 y1 y2 y3 y4)) ∧ (∀ y0 y1 y2 y3 y4 y5, LeO (spec_MakeEvery.l0 k y0 y1 y2 y3 y4 y5) (spec_MakeEvery.l0 (k + 1) y0 y1 y2 y3 y4 y5))
  | 0 => ⟨fun _ _ _ _ _ r h => by simp [spec_MakeEvery.j0] at h, fun _ _ _ _ _ _ r h => by simp [spec_MakeEvery.l0] at h⟩
  | k + 1 => by
    obtain ⟨ih0, ih1⟩ := spec_MakeEvery.mono_l k
    refine ⟨?_, ?_⟩
    · intro y0 y1 y2 y3 y4
      unfold spec_MakeEvery.j0
      repeat' first
      | (with_reducible exact ih0 _ _ _ _ _)
      | (with_reducible exact ih1 _ _ _ _ _ _)
      | (with_reducible exact spec_l1Read.mono _ _)
      | (with_reducible exact spec_l2Fill.mono _ _ _)
      | (with_reducible exact LeO.refl _)
      | (with_reducible exact LeO.none _)
      | (with_reducible refine LeO.ite ?_ ?_)
      | (with_reducible refine LeO.bind ?_ (fun _ => ?_))
      | exact ih0 _ _ _ _ _
      | exact ih1 _ _ _ _ _ _
      | exact spec_l1Read.mono _ _
      | exact spec_l2Fill.mono _ _ _
      | exact LeO.none _
      | refine LeO.ite ?_ ?_
      | refine LeO.bind ?_ (fun _ => ?_)
    · intro y0 y1 y2 y3 y4 y5
      unfold spec_MakeEvery.l0
      repeat' first
      | (with_reducible exact ih0 _ _ _ _ _)
      | (with_reducible exact ih1 _ _ _ _ _ _)
      | (with_reducible exact spec_l1Read.mono _ _)
      | (with_reducible exact spec_l2Fill.mono _ _ _)
      | (with_reducible exact LeO.refl _)
      | (with_reducible exact LeO.none _)
      | (with_reducible refine LeO.ite ?_ ?_)
      | (with_reducible refine LeO.bind ?_ (fun _ => ?_))
      | exact ih0 _ _ _ _ _
      | exact ih1 _ _ _ _ _ _
      | exact spec_l1Read.mono _ _
      | exact spec_l2Fill.mono _ _ _
      | exact LeO.none _
      | refine LeO.ite ?_ ?_
      | refine LeO.bind ?_ (fun _ => ?_)
theorem spec_MakeEvery.mono : ∀ a0 a1 a2 k, LeO (spec_MakeEvery.f k a0 a1 a2) (spec_MakeEvery.f (k + 1) a0 a1 a2) := by
  intro a0 a1 a2 k
  obtain ⟨ih0, ih1⟩ := spec_MakeEvery.mono_l k
  unfold spec_MakeEvery.f
  repeat' first
      | (with_reducible exact ih0 _ _ _ _ _)
      | (with_reducible exact ih1 _ _ _ _ _ _)
      | (with_reducible exact spec_l1Read.mono _ _)
      | (with_reducible exact spec_l2Fill.mono _ _ _)
      | (with_reducible exact LeO.refl _)
      | (with_reducible exact LeO.none _)
      | (with_reducible refine LeO.ite ?_ ?_)
      | (with_reducible refine LeO.bind ?_ (fun _ => ?_))
      | exact ih0 _ _ _ _ _
      | exact ih1 _ _ _ _ _ _
      | exact spec_l1Read.mono _ _
      | exact spec_l2Fill.mono _ _ _
      | exact LeO.none _
      | refine LeO.ite ?_ ?_
      | refine LeO.bind ?_ (fun _ => ?_)
set_option maxHeartbeats 8000000 in
set_option maxRecDepth 100000 in
theorem spec_MakeEvery.calls (k : Nat) (a0 : ByteArray) (a1 : Int) (a2 : Int) (r1 : ByteArray) (r2 : Bool) (w : World) (h : spec_MakeEvery.f k a0 a1 a2 = some (r1, r2)) :
    Calls Try.prog 9 #[.string a0, .int .i64 a1, .int .i64 a2] w fun e w' => e = .returned (.tuple #[.string r1, .bool r2]) ∧ Below w.heap.size w w' := by
  have hu36 := Try.underlying36
  have HB := Aside0.mk (Below.refl w.heap.size w)
  have H : ((spec_l1Read.f k a0).bind fun bt205 => (if bt205.2.2 = true then ((spec_l6In.f a1 1 20).bind fun t213 => (if t213 = true then ((spec_l6In.f a2 0 100).bind fun t214 => (spec_MakeEvery.j0 k a1 a2 (!t214) bt205.1 bt205.2.1)) else (spec_MakeEvery.j0 k a1 a2 true bt205.1 bt205.2.1))) else (spec_MakeEvery.j0 k a1 a2 true bt205.1 bt205.2.1))) = some (r1, r2) := h
  clear h
  replace H := Option.bind_eq_some_iff.mp H
  obtain ⟨⟨t205, t208, t211⟩, A40, H⟩ := H
  replace H : (if t211 = true then ((spec_l6In.f a1 1 20).bind fun t213 => (if t213 = true then ((spec_l6In.f a2 0 100).bind fun t214 => (spec_MakeEvery.j0 k a1 a2 (!t214) t205 t208)) else (spec_MakeEvery.j0 k a1 a2 true t205 t208))) else (spec_MakeEvery.j0 k a1 a2 true t205 t208)) = some (r1, r2) := H
  have A4 := Aside0.mk A40
  clear A40
  have HC5 := Aside0.mk H
  clear H
  go_enter Try.func9, Try.ntmps9
  go_upto_region 2 with (first | ((with_reducible refine gate_callee (f := 24) rfl ?_); refine goesL_ (some 14) rfl rfl Try.func24 (by kernel_rfl) rfl #[.string a0] rfl (by (try simp only [List.map_toArray, List.map_cons, List.map_nil]); first | done | rfl | (simp only [List.length_drop, List.length_take]; rfl)) ?_; (with_reducible refine (spec_l1Read.calls k a0 t205 t208 t211 _ A4.out).mono ?_); rintro e w6 ⟨v206, v209, rfl, ho0, ho1, hb⟩; refine ⟨_, rfl, ?_⟩; have n0_ := Aside0.mk (Kd.R_lower ho0 (below_size (by repeat (first | (with_reducible first | exact HB.out | apply below_alloc | apply pw_below_drewN | apply below_drew1) | exact HB.out)))); have n1_ := Aside0.mk (Kd.R_lower ho1 (below_size (by repeat (first | (with_reducible first | exact HB.out | apply below_alloc | apply pw_below_drewN | apply below_drew1) | exact HB.out)))); have n2_ := Aside0.mk (below_step (by repeat (first | (with_reducible first | exact HB.out | apply below_alloc | apply pw_below_drewN | apply below_drew1) | exact HB.out)) hb); clear HB; have HO207 := n0_; have HO210 := n1_; have HB := n2_; clear n0_ n1_ n2_; (try clear hb); (try clear hb2); (try clear hk); (try clear hi); (try clear ho0); (try clear ho1)) | ((with_reducible refine gate_dst (N := 8) rfl ?_); refine box_event ?hg (N := 8) ?hd (cs := #[.slice none 0 0, .slice none 0 0]) (t := 36) ?hr ?_; (case hd => rfl); (case hg => rfl); (case hr => first | (go_simp; done) | (go_simp; rfl)); intro gb212 hg w7 hbox hb; have n0_ := Aside0.mk (Kd.R_below (by (with_reducible repeat (first | apply Kd.R_alloc | apply Kd.R_drewN | apply Kd.R_drew)); exact HO207.out) hb); have n1_ := Aside0.mk (Kd.R_below (by (with_reducible repeat (first | apply Kd.R_alloc | apply Kd.R_drewN | apply Kd.R_drew)); exact HO210.out) hb); have n2_ := Aside0.mk (below_step (by repeat (first | (with_reducible first | exact HB.out | apply below_alloc | apply pw_below_drewN | apply below_drew1) | exact HB.out)) hb); have n3_ := Aside0.mk (hbox); have n4_ := Aside0.mk ((by rw [hg]; exact (below_size (by repeat (first | (with_reducible first | exact HB.out | apply below_alloc | apply pw_below_drewN | apply below_drew1) | exact HB.out))) : w.heap.size ≤ gb212)); have n5_ := Aside0.mk ((by rw [hg]; exact (below_size (by repeat (first | (with_reducible first | exact HB.out | apply below_alloc | apply pw_below_drewN | apply below_drew1) | exact HB.out))) : w.heap.size ≤ gb212)); clear HO207; clear HO210; clear HB; have HO207 := n0_; have HO210 := n1_; have HB := n2_; have BK212 := n3_; have GW212 := n4_; have GE212 := n5_; clear n0_ n1_ n2_ n3_ n4_ n5_; clear hb hbox hg; obtain ⟨Ao8, co8, eo8⟩ := Kd.R_slice HO207.out; subst eo8; have hcz9_0 : w7.cell? ⟨gb212, 0, none⟩ = some (.slice none 0 0) := (blk_cell BK212.out 0).trans rfl; have hcz9_1 : w7.cell? ⟨gb212, 1, none⟩ = some (.slice none 0 0) := (blk_cell BK212.out 1).trans rfl; have hfz9_0 := blk_frozen BK212.out 0; have hfz9_1 := blk_frozen BK212.out 1; obtain ⟨Ao10, co10, eo10⟩ := Kd.R_slice HO210.out; subst eo10))
  (try simp only [Act.put, List.setIfInBounds_toArray, List.set_cons_zero, List.set_cons_succ])
  go_cut [28] (fun v28 wc => ∃ (kq : Nat) (x28_4 : Bool), v28 = .bool x28_4 ∧ Aside0 (spec_MakeEvery.j0 kq a1 a2 x28_4 t205 t208 = some (r1, r2)) ∧ Aside0 (kq ≤ k) ∧ Aside0 (Kd.R Kd.bool 4 wc w.heap.size (fun k_ => some k_ ≠ ((.slice Ao10 t208.length co10) : Value).ownBlock) (.slice Ao8 t205.length co8) t205) ∧ Aside0 (Kd.R Kd.bool 4 wc w.heap.size (fun k_ => some k_ ≠ ((.slice Ao8 t205.length co8) : Value).ownBlock) (.slice Ao10 t208.length co10) t208) ∧ Aside0 (wc.heap[gb212]? = some (.cells #[(.slice Ao8 t205.length co8), (.slice Ao10 t208.length co10)] 36 (0, 0))) ∧ Aside0 (Below w.heap.size w wc))
  case first =>
    have H := HC5.out
    clear HC5
    by_cases c11 : t211 = true
    · subst c11
      have H1 : ((spec_l6In.f a1 1 20).bind fun t213 => (if t213 = true then ((spec_l6In.f a2 0 100).bind fun t214 => (spec_MakeEvery.j0 k a1 a2 (!t214) t205 t208)) else (spec_MakeEvery.j0 k a1 a2 true t205 t208))) = some (r1, r2) := by rw [if_pos rfl] at H; exact H
      clear H
      have H := H1
      clear H1
      replace H := Option.bind_eq_some_iff.mp H
      obtain ⟨t213, A120, H⟩ := H
      replace H : (if t213 = true then ((spec_l6In.f a2 0 100).bind fun t214 => (spec_MakeEvery.j0 k a1 a2 (!t214) t205 t208)) else (spec_MakeEvery.j0 k a1 a2 true t205 t208)) = some (r1, r2) := H
      have A12 := Aside0.mk A120
      clear A120
      by_cases c13 : t213 = true
      · subst c13
        have H1 : ((spec_l6In.f a2 0 100).bind fun t214 => (spec_MakeEvery.j0 k a1 a2 (!t214) t205 t208)) = some (r1, r2) := by rw [if_pos rfl] at H; exact H
        clear H
        have H := H1
        clear H1
        replace H := Option.bind_eq_some_iff.mp H
        obtain ⟨t214, A140, H⟩ := H
        replace H : (spec_MakeEvery.j0 k a1 a2 (!t214) t205 t208) = some (r1, r2) := H
        have A14 := Aside0.mk A140
        clear A140
        have H' := Aside0.mk H
        clear H
        go_wp2_with (first | (go_at_call 25; (with_reducible refine (spec_l6In.calls a1 1 20 true _ A12.out).mono ?_); rintro e w' ⟨rfl, ⟨nd, rfl⟩⟩) | (go_at_call 25; (with_reducible refine (spec_l6In.calls a2 0 100 t214 _ A14.out).mono ?_); rintro e w' ⟨rfl, ⟨nd, rfl⟩⟩))
        go_meet
        case rel => exact ⟨_, (!t214), (by first | rfl | (simp; done) | (simp [*]; done) | (simp [Int.tmod_eq_emod_of_nonneg]; done)), H', ⟨by first | omega | exact Nat.le_refl _⟩, ⟨by (with_reducible repeat (first | apply Kd.R_alloc | apply Kd.R_drewN | apply Kd.R_drew)); exact Kd.R_mono (Kd.R_far (p := ⟨gb212, 1, none⟩) (Kd.R_far (p := ⟨gb212, 0, none⟩) (Kd.R_types HO207.out BK212.out (by decide)) (fun _ hk => hk.2) (.slice Ao8 t205.length co8)) (fun _ hk => hk.2) (.slice Ao10 t208.length co10)) (fun _ hk => hk.1)⟩, ⟨by (with_reducible repeat (first | apply Kd.R_alloc | apply Kd.R_drewN | apply Kd.R_drew)); exact Kd.R_mono (Kd.R_far (p := ⟨gb212, 1, none⟩) (Kd.R_far (p := ⟨gb212, 0, none⟩) (Kd.R_types HO210.out BK212.out (by decide)) (fun _ hk => hk.2) (.slice Ao8 t205.length co8)) (fun _ hk => hk.2) (.slice Ao10 t208.length co10)) (fun _ hk => hk.1)⟩, ⟨by (with_reducible repeat (first | refine blk_drewN ?_ _ | refine blk_drew ?_ | refine blk_alloc ?_ _)); refine blk_put (cs := #[.slice Ao8 t205.length co8, .slice none 0 0]) ?_ 1 _ rfl; (with_reducible repeat (first | refine blk_drewN ?_ _ | refine blk_drew ?_ | refine blk_alloc ?_ _)); refine blk_put (cs := #[.slice none 0 0, .slice none 0 0]) ?_ 0 _ rfl; (with_reducible repeat (first | refine blk_drewN ?_ _ | refine blk_drew ?_ | refine blk_alloc ?_ _)); exact BK212.out⟩, ⟨by repeat (first | (with_reducible first | exact HB.out | apply below_alloc | apply pw_below_drewN | apply below_drew1 | refine below_set ?_ GE212.out) | exact HB.out)⟩⟩
      · replace c13 := Bool.eq_false_iff.mpr c13
        subst c13
        have H1 : (spec_MakeEvery.j0 k a1 a2 true t205 t208) = some (r1, r2) := by rw [if_neg (show ¬ (false = true) by decide)] at H; exact H
        clear H
        have H := H1
        clear H1
        have H' := Aside0.mk H
        clear H
        go_wp2_with (first | (go_at_call 25; (with_reducible refine (spec_l6In.calls a1 1 20 false _ A12.out).mono ?_); rintro e w' ⟨rfl, ⟨nd, rfl⟩⟩))
        go_meet
        case rel => exact ⟨_, (true), (by first | rfl | (simp; done) | (simp [*]; done) | (simp [Int.tmod_eq_emod_of_nonneg]; done)), H', ⟨by first | omega | exact Nat.le_refl _⟩, ⟨by (with_reducible repeat (first | apply Kd.R_alloc | apply Kd.R_drewN | apply Kd.R_drew)); exact Kd.R_mono (Kd.R_far (p := ⟨gb212, 1, none⟩) (Kd.R_far (p := ⟨gb212, 0, none⟩) (Kd.R_types HO207.out BK212.out (by decide)) (fun _ hk => hk.2) (.slice Ao8 t205.length co8)) (fun _ hk => hk.2) (.slice Ao10 t208.length co10)) (fun _ hk => hk.1)⟩, ⟨by (with_reducible repeat (first | apply Kd.R_alloc | apply Kd.R_drewN | apply Kd.R_drew)); exact Kd.R_mono (Kd.R_far (p := ⟨gb212, 1, none⟩) (Kd.R_far (p := ⟨gb212, 0, none⟩) (Kd.R_types HO210.out BK212.out (by decide)) (fun _ hk => hk.2) (.slice Ao8 t205.length co8)) (fun _ hk => hk.2) (.slice Ao10 t208.length co10)) (fun _ hk => hk.1)⟩, ⟨by (with_reducible repeat (first | refine blk_drewN ?_ _ | refine blk_drew ?_ | refine blk_alloc ?_ _)); refine blk_put (cs := #[.slice Ao8 t205.length co8, .slice none 0 0]) ?_ 1 _ rfl; (with_reducible repeat (first | refine blk_drewN ?_ _ | refine blk_drew ?_ | refine blk_alloc ?_ _)); refine blk_put (cs := #[.slice none 0 0, .slice none 0 0]) ?_ 0 _ rfl; (with_reducible repeat (first | refine blk_drewN ?_ _ | refine blk_drew ?_ | refine blk_alloc ?_ _)); exact BK212.out⟩, ⟨by repeat (first | (with_reducible first | exact HB.out | apply below_alloc | apply pw_below_drewN | apply below_drew1 | refine below_set ?_ GE212.out) | exact HB.out)⟩⟩
    · replace c11 := Bool.eq_false_iff.mpr c11
      subst c11
      have H1 : (spec_MakeEvery.j0 k a1 a2 true t205 t208) = some (r1, r2) := by rw [if_neg (show ¬ (false = true) by decide)] at H; exact H
      clear H
      have H := H1
      clear H1
      have H' := Aside0.mk H
      clear H
      go_wp2
      go_meet
      case rel => exact ⟨_, (true), (by first | rfl | (simp; done) | (simp [*]; done) | (simp [Int.tmod_eq_emod_of_nonneg]; done)), H', ⟨by first | omega | exact Nat.le_refl _⟩, ⟨by (with_reducible repeat (first | apply Kd.R_alloc | apply Kd.R_drewN | apply Kd.R_drew)); exact Kd.R_mono (Kd.R_far (p := ⟨gb212, 1, none⟩) (Kd.R_far (p := ⟨gb212, 0, none⟩) (Kd.R_types HO207.out BK212.out (by decide)) (fun _ hk => hk.2) (.slice Ao8 t205.length co8)) (fun _ hk => hk.2) (.slice Ao10 t208.length co10)) (fun _ hk => hk.1)⟩, ⟨by (with_reducible repeat (first | apply Kd.R_alloc | apply Kd.R_drewN | apply Kd.R_drew)); exact Kd.R_mono (Kd.R_far (p := ⟨gb212, 1, none⟩) (Kd.R_far (p := ⟨gb212, 0, none⟩) (Kd.R_types HO210.out BK212.out (by decide)) (fun _ hk => hk.2) (.slice Ao8 t205.length co8)) (fun _ hk => hk.2) (.slice Ao10 t208.length co10)) (fun _ hk => hk.1)⟩, ⟨by (with_reducible repeat (first | refine blk_drewN ?_ _ | refine blk_drew ?_ | refine blk_alloc ?_ _)); refine blk_put (cs := #[.slice Ao8 t205.length co8, .slice none 0 0]) ?_ 1 _ rfl; (with_reducible repeat (first | refine blk_drewN ?_ _ | refine blk_drew ?_ | refine blk_alloc ?_ _)); refine blk_put (cs := #[.slice none 0 0, .slice none 0 0]) ?_ 0 _ rfl; (with_reducible repeat (first | refine blk_drewN ?_ _ | refine blk_drew ?_ | refine blk_alloc ?_ _)); exact BK212.out⟩, ⟨by repeat (first | (with_reducible first | exact HB.out | apply below_alloc | apply pw_below_drewN | apply below_drew1 | refine below_set ?_ GE212.out) | exact HB.out)⟩⟩
  case rest =>
    clear HC5
    try clear c1
    try clear c2
    try clear p2
    try clear c9
    try clear c11
    try clear c13
    try clear hcz9_0
    try clear hcz9_1
    try clear hfz9_0
    try clear hfz9_1
    obtain ⟨kq, x28_4, rfl, HA, HJ4, HO_213000, HO_213001, BK212, HB⟩ := hcut
    cases kq with
    | zero => exact absurd HA.out (by simp [spec_MakeEvery.j0])
    | succ kj4 =>
      have H := HA.out
      clear HA
      simp only [spec_MakeEvery.j0] at H
      by_cases c15 : x28_4 = true
      · subst c15
        have H1 : (some ((⟨#[]⟩ : ByteArray), false)) = some (r1, r2) := by rw [if_pos rfl] at H; exact H
        clear H
        have H := H1
        clear H1
        simp only [Option.some.injEq, Prod.mk.injEq] at H
        obtain ⟨rfl, rfl⟩ := H
        go_wp2
        go_ret2
        exact ⟨by first | rfl | (simp [errW_none, errW_some] <;> rfl) | (simp [*, errW_none, errW_some] <;> rfl) | (simp [errW_none, errW_some]; exact ⟨rfl, rfl⟩), by repeat (first | (with_reducible first | exact HB.out | apply below_alloc | apply pw_below_drewN | apply below_drew1 | refine below_set ?_ GE212.out) | exact HB.out)⟩
      · replace c15 := Bool.eq_false_iff.mpr c15
        subst c15
        have H1 : (spec_MakeEvery.l0 kj4 a1 a2 (([] : List Bool)) 0 t205 t208) = some (r1, r2) := by rw [if_neg (show ¬ (false = true) by decide)] at H; exact H
        clear H
        have H := H1
        clear H1
        obtain ⟨y215, hy215⟩ : ∃ y_ : List Bool, y_ = (([] : List Bool)) := ⟨_, rfl⟩
        replace H : (spec_MakeEvery.l0 kj4 a1 a2 y215 0 t205 t208) = some (r1, r2) := by first | (rw [hy215]; with_reducible exact H) | (have H2_ := (Option.bind_some _ _).symm.trans H; rw [hy215]; with_reducible exact H2_) | (have H2_ := (Option.bind_some _ _).symm.trans H; with_reducible exact H2_) | with_reducible exact H | (rw [hy215]; exact H) | exact H
        have Ny215 := Aside0.mk hy215
        clear hy215
        have H' := Aside0.mk H
        clear H
        go_wp2_with (first | ((with_reducible refine gate_dst (N := 29) rfl ?_); refine Kd.R_lit Kd.bool _ 4 ?hg (N := 29) ?hd (xs := ([] : List Bool)) (inner := []) (ok := fun _ => True) (okp := fun _ => True) ?hr ?hp (fun _ hk => hk) trivial (Below.refl _ _) (Nat.le_refl _) (by simp) ?_; (case hd => rfl); (case hg => rfl); (case hr => first | (go_simp; done) | (go_simp; rfl)); (case hp => exact (Reps.none _ _)); intro v216 w16 ho17 hb hg_ hnew_; clear hg_ hnew_; (first | rw [← Ny215.out] at ho17 | (simp only [Int.reduceToNat] at ho17; rw [← Ny215.out] at ho17)); have n0_ := Aside0.mk (Kd.R_elder' (by (with_reducible repeat (first | apply Kd.R_alloc | apply Kd.R_drewN | apply Kd.R_drew)); exact HO_213000.out) (Kd.R_base ho17) hb); have n1_ := Aside0.mk (Kd.R_elder' (by (with_reducible repeat (first | apply Kd.R_alloc | apply Kd.R_drewN | apply Kd.R_drew)); exact HO_213001.out) (Kd.R_base ho17) hb); have n2_ := Aside0.mk (Kd.R_lower (Kd.R_new' (Kd.R_new' ho17 (Kd.R_lt (by (with_reducible repeat (first | apply Kd.R_alloc | apply Kd.R_drewN | apply Kd.R_drew)); exact HO_213000.out))) (Kd.R_lt (by (with_reducible repeat (first | apply Kd.R_alloc | apply Kd.R_drewN | apply Kd.R_drew)); exact HO_213001.out))) (below_size (by repeat (first | (with_reducible first | exact HB.out | apply below_alloc | apply pw_below_drewN | apply below_drew1 | refine below_set ?_ GE212.out) | exact HB.out)))); have n3_ := Aside0.mk (blk_below (g := gb212) (o := .cells #[.slice Ao8 t205.length co8, .slice Ao10 t208.length co10] 36 (0, 0)) (by (with_reducible repeat (first | refine blk_drewN ?_ _ | refine blk_drew ?_ | refine blk_alloc ?_ _)); exact BK212.out) hb); have n4_ := Aside0.mk (below_step (by repeat (first | (with_reducible first | exact HB.out | apply below_alloc | apply pw_below_drewN | apply below_drew1 | refine below_set ?_ GE212.out) | exact HB.out)) hb); clear HO_213000; clear HO_213001; clear BK212; clear HB; have HO_213000 := n0_; have HO_213001 := n1_; have HO217 := n2_; have BK212 := n3_; have HB := n4_; clear n0_ n1_ n2_ n3_ n4_; clear hb ho17))
        go_loopg [10, 11] kj4 (fun kq v10 v11 w' => ∃ (x10_2 : List Bool) (x11_2 : Int), v11 = .int .i64 x11_2 ∧ Aside0 (spec_MakeEvery.l0 kq a1 a2 x10_2 x11_2 t205 t208 = some (r1, r2)) ∧ Aside0 (kq ≤ kj4) ∧ Aside0 (Kd.R Kd.bool 4 w' w.heap.size (fun k_ => some k_ ≠ ((.slice Ao8 t205.length co8) : Value).ownBlock ∧ some k_ ≠ ((.slice Ao10 t208.length co10) : Value).ownBlock) v10 x10_2) ∧ Aside0 (Kd.R Kd.bool 4 w' w.heap.size (fun k_ => some k_ ≠ (v10 : Value).ownBlock ∧ some k_ ≠ ((.slice Ao10 t208.length co10) : Value).ownBlock) (.slice Ao8 t205.length co8) t205) ∧ Aside0 (Kd.R Kd.bool 4 w' w.heap.size (fun k_ => some k_ ≠ (v10 : Value).ownBlock ∧ some k_ ≠ ((.slice Ao8 t205.length co8) : Value).ownBlock) (.slice Ao10 t208.length co10) t208) ∧ Aside0 (w'.heap[gb212]? = some (.cells #[(.slice Ao8 t205.length co8), (.slice Ao10 t208.length co10)] 36 (0, 0))) ∧ Aside0 (Below w.heap.size w w'))
        case atStart => exact ⟨(y215), (0), (by first | rfl | (simp; done) | (simp [*]; done) | (simp [Int.tmod_eq_emod_of_nonneg]; done)), H', ⟨Nat.le_refl _⟩, ⟨by (with_reducible repeat (first | apply Kd.R_alloc | apply Kd.R_drewN | apply Kd.R_drew)); exact Kd.R_mono HO217.out (fun _ hk => ⟨hk.1.2, hk.2⟩)⟩, ⟨by (with_reducible repeat (first | apply Kd.R_alloc | apply Kd.R_drewN | apply Kd.R_drew)); exact Kd.R_mono HO_213000.out (fun _ hk => ⟨hk.2, hk.1⟩)⟩, ⟨by (with_reducible repeat (first | apply Kd.R_alloc | apply Kd.R_drewN | apply Kd.R_drew)); exact Kd.R_mono HO_213001.out (fun _ hk => ⟨hk.2, hk.1⟩)⟩, ⟨by (with_reducible repeat (first | refine blk_drewN ?_ _ | refine blk_drew ?_ | refine blk_alloc ?_ _)); exact BK212.out⟩, ⟨by repeat (first | (with_reducible first | exact HB.out | apply below_alloc | apply pw_below_drewN | apply below_drew1 | refine below_set ?_ GE212.out) | exact HB.out)⟩⟩
        case round =>
          clear H'
          try clear c1
          try clear c2
          try clear p2
          try clear c9
          try clear c11
          try clear c13
          try clear c15
          try clear hcz9_0
          try clear hcz9_1
          try clear hfz9_0
          try clear hfz9_1
          try clear p2
          obtain ⟨x10_2, x11_2, rfl, HA, HK2, HO_10, HO_213000, HO_213001, BK212, HB⟩ := hrel
          cases gk with
          | zero => exact absurd HA.out (by simp [spec_MakeEvery.l0])
          | succ k2 =>
            have H := HA.out
            clear HA
            simp only [spec_MakeEvery.l0] at H
            by_cases c18 : x11_2 < (wrap64 ((t205.length : Int) + (t208.length : Int)))
            · rw [if_pos c18] at H
              have c18b0 : decide (x11_2 < (wrap64 ((t205.length : Int) + (t208.length : Int)))) = true := decide_eq_true c18
              clear c18
              replace H := Option.bind_eq_some_iff.mp H
              obtain ⟨t218, A190, H⟩ := H
              replace H : (if x10_2.length < 140737488355328 then (spec_MakeEvery.l0 k2 a1 a2 (x10_2 ++ [t218]) (wrap64 (x11_2 + 1)) t205 t208) else (none)) = some (r1, r2) := H
              have A19 := Aside0.mk A190
              clear A190
              by_cases c20 : x10_2.length < 140737488355328
              · rw [if_pos c20] at H
                have LMc20 := Aside0.mk c20
                clear c20
                obtain ⟨y219, hy219⟩ : ∃ y_ : List Bool, y_ = (x10_2 ++ [t218]) := ⟨_, rfl⟩
                replace H : (spec_MakeEvery.l0 k2 a1 a2 y219 (wrap64 (x11_2 + 1)) t205 t208) = some (r1, r2) := by first | (rw [hy219]; with_reducible exact H) | (have H2_ := (Option.bind_some _ _).symm.trans H; rw [hy219]; with_reducible exact H2_) | (have H2_ := (Option.bind_some _ _).symm.trans H; with_reducible exact H2_) | with_reducible exact H | (rw [hy219]; exact H) | exact H
                have Ny219 := Aside0.mk hy219
                clear hy219
                have H' := Aside0.mk H
                clear H
                have hcz21_0 : wr.cell? ⟨gb212, 0, none⟩ = some (.slice Ao8 t205.length co8) := (blk_cell BK212.out 0).trans rfl
                have hcz21_1 : wr.cell? ⟨gb212, 1, none⟩ = some (.slice Ao10 t208.length co10) := (blk_cell BK212.out 1).trans rfl
                have hfz21_0 := blk_frozen BK212.out 0
                have hfz21_1 := blk_frozen BK212.out 1
                go_wp2_with (first | ((with_reducible refine gate_callee (f := 26) rfl ?_); refine goesL_ (some 48) rfl rfl Try.func26 (by kernel_rfl) rfl #[.agg #[.slice Ao8 t205.length co8, .slice Ao10 t208.length co10], .int .i64 (wrap64 ((wrap64 (a1 * x11_2)) + a2))] rfl (by (try simp only [List.map_toArray, List.map_cons, List.map_nil]); first | done | rfl | (simp only [List.length_drop, List.length_take]; rfl)) ?_; (with_reducible refine (spec_l1Has.calls _ _ t205 _ _ t208 (wrap64 ((wrap64 (a1 * x11_2)) + a2)) t218 _ ?side1 ?side2 ?side3 ?side4 A19.out).mono ?_); (case side1 => repeat (first | exact (Kd.R_reads' HO_213000.out).2.2 | (with_reducible refine Kd.C_alloc ?_ _) | (with_reducible refine Kd.C_drewN ?_ _) | (with_reducible refine Kd.C_drew ?_))); (case side2 => exact (Kd.R_reads' HO_213000.out).2.1); (case side3 => repeat (first | exact (Kd.R_reads' HO_213001.out).2.2 | (with_reducible refine Kd.C_alloc ?_ _) | (with_reducible refine Kd.C_drewN ?_ _) | (with_reducible refine Kd.C_drew ?_))); (case side4 => exact (Kd.R_reads' HO_213001.out).2.1); rintro e w22 ⟨rfl, hb⟩; refine ⟨_, rfl, ?_⟩; have n0_ := Aside0.mk (Kd.R_below (by (with_reducible repeat (first | apply Kd.R_alloc | apply Kd.R_drewN | apply Kd.R_drew)); exact HO_10.out) hb); have n1_ := Aside0.mk (Kd.R_below (by (with_reducible repeat (first | apply Kd.R_alloc | apply Kd.R_drewN | apply Kd.R_drew)); exact HO_213000.out) hb); have n2_ := Aside0.mk (Kd.R_below (by (with_reducible repeat (first | apply Kd.R_alloc | apply Kd.R_drewN | apply Kd.R_drew)); exact HO_213001.out) hb); have n3_ := Aside0.mk (blk_below (g := gb212) (o := .cells #[.slice Ao8 t205.length co8, .slice Ao10 t208.length co10] 36 (0, 0)) (by (with_reducible repeat (first | refine blk_drewN ?_ _ | refine blk_drew ?_ | refine blk_alloc ?_ _)); exact BK212.out) hb); have n4_ := Aside0.mk (below_step (by repeat (first | (with_reducible first | exact HB.out | apply below_alloc | apply pw_below_drewN | apply below_drew1 | refine below_set ?_ GE212.out) | exact HB.out)) hb); clear HO_10; clear HO_213000; clear HO_213001; clear BK212; clear HB; have HO_10 := n0_; have HO_213000 := n1_; have HO_213001 := n2_; have BK212 := n3_; have HB := n4_; clear n0_ n1_ n2_ n3_ n4_; (try clear hb); (try clear hb2); (try clear hk); (try clear hi)) | ((with_reducible refine gate_builtin (b := .append) (xs := #[.tmp 41, .tmp 49]) rfl ?_); at_builtin; refine Kd.R_append Kd.bool (w0 := w) w.heap.size rfl (.tmp 41) (.tmp 49) 34 4 (.bool false) 1 rfl Try.underlying34 info4 rfl (by decide) (by omega) u10 x10_2 t218 [.bool t218] (fun k_ => some k_ ≠ (.slice Ao8 t205.length co8 : Value).ownBlock ∧ some k_ ≠ (.slice Ao10 t208.length co10 : Value).ownBlock) (fun _ => False) rfl rfl ?aP (fun _ hk => hk.elim) ?aF ?aO ?aB ?aS ?aL ?_; (case aP => exact rfl); (case aB => exact (by repeat (first | (with_reducible first | exact HB.out | apply below_alloc | apply pw_below_drewN | apply below_drew1 | refine below_set ?_ GE212.out) | exact HB.out))); (case aF => exact (fun k_ hk => ⟨Kd.fresh' (Kd.R_lt (by (with_reducible repeat (first | apply Kd.R_alloc | apply Kd.R_drewN | apply Kd.R_drew)); exact HO_213000.out)) k_ hk, Kd.fresh' (Kd.R_lt (by (with_reducible repeat (first | apply Kd.R_alloc | apply Kd.R_drewN | apply Kd.R_drew)); exact HO_213001.out)) k_ hk⟩)); (case aO => exact (by (with_reducible repeat (first | apply Kd.R_alloc | apply Kd.R_drewN | apply Kd.R_drew)); exact HO_10.out)); (case aS => exact (below_size (by repeat (first | (with_reducible first | exact HB.out | apply below_alloc | apply pw_below_drewN | apply below_drew1 | refine below_set ?_ GE212.out) | exact HB.out)))); (case aL => have := LMc20.out; omega); intro v220 w23 ho hb hg hat; rw [← Ny219.out] at ho; have n0_ := Aside0.mk (Kd.R_after (ok := (fun k_ => some k_ ≠ (.slice Ao10 t208.length co10 : Value).ownBlock)) (by (with_reducible repeat (first | apply Kd.R_alloc | apply Kd.R_drewN | apply Kd.R_drew)); exact Kd.R_mono HO_213000.out (fun _ hk => ⟨hk.2, hk.1⟩)) hg hat); have n1_ := Aside0.mk (Kd.R_after (ok := (fun k_ => some k_ ≠ (.slice Ao8 t205.length co8 : Value).ownBlock)) (by (with_reducible repeat (first | apply Kd.R_alloc | apply Kd.R_drewN | apply Kd.R_drew)); exact Kd.R_mono HO_213001.out (fun _ hk => ⟨hk.2, hk.1⟩)) hg hat); have n2_ := Aside0.mk (blk_grown (g := gb212) (o := .cells #[.slice Ao8 t205.length co8, .slice Ao10 t208.length co10] 36 (0, 0)) (by (with_reducible repeat (first | refine blk_drewN ?_ _ | refine blk_drew ?_ | refine blk_alloc ?_ _)); exact BK212.out) hg (Kd.R_ne HO_10.out BK212.out (by decide))); have n3_ := Aside0.mk (hb); have n4_ := Aside0.mk (ho); clear HO_213000; clear HO_213001; clear BK212; clear HB; clear HO_10; have HO_213000 := n0_; have HO_213001 := n1_; have BK212 := n2_; have HB := n3_; have HO221 := n4_; clear n0_ n1_ n2_ n3_ n4_; clear ho hb hg hat))
                go_roundg k2
                case measure => have := HJ4.out; have := HK2.out; omega
                case rel => exact ⟨(y219), (wrap64 (x11_2 + 1)), (by first | rfl | (simp; done) | (simp [*]; done) | (simp [Int.tmod_eq_emod_of_nonneg]; done)), H', ⟨by have := HJ4.out; have := HK2.out; omega⟩, ⟨by (with_reducible repeat (first | apply Kd.R_alloc | apply Kd.R_drewN | apply Kd.R_drew)); exact HO221.out⟩, ⟨by (with_reducible repeat (first | apply Kd.R_alloc | apply Kd.R_drewN | apply Kd.R_drew)); exact Kd.R_mono HO_213000.out (fun _ hk => ⟨hk.2, hk.1⟩)⟩, ⟨by (with_reducible repeat (first | apply Kd.R_alloc | apply Kd.R_drewN | apply Kd.R_drew)); exact Kd.R_mono HO_213001.out (fun _ hk => ⟨hk.2, hk.1⟩)⟩, ⟨by (with_reducible repeat (first | refine blk_drewN ?_ _ | refine blk_drew ?_ | refine blk_alloc ?_ _)); exact BK212.out⟩, ⟨by repeat (first | (with_reducible first | exact HB.out | apply below_alloc | apply pw_below_drewN | apply below_drew1 | refine below_set ?_ GE212.out) | exact HB.out)⟩⟩
              · rw [if_neg c20] at H
                exact absurd H (by simp)
            · rw [if_neg c18] at H
              have c18b0 : decide (x11_2 < (wrap64 ((t205.length : Int) + (t208.length : Int)))) = false := decide_eq_false c18
              clear c18
              replace H := Option.bind_eq_some_iff.mp H
              obtain ⟨⟨t222, t223⟩, A240, H⟩ := H
              replace H : (some (t222, t223)) = some (r1, r2) := H
              have A24 := Aside0.mk A240
              clear A240
              simp only [Option.some.injEq, Prod.mk.injEq] at H
              obtain ⟨rfl, rfl⟩ := H
              have hcz25_0 : wr.cell? ⟨gb212, 0, none⟩ = some (.slice Ao8 t205.length co8) := (blk_cell BK212.out 0).trans rfl
              have hcz25_1 : wr.cell? ⟨gb212, 1, none⟩ = some (.slice Ao10 t208.length co10) := (blk_cell BK212.out 1).trans rfl
              have hfz25_0 := blk_frozen BK212.out 0
              have hfz25_1 := blk_frozen BK212.out 1
              obtain ⟨Ao26, co26, eo26⟩ := Kd.R_slice HO_10.out
              subst eo26
              go_wp2_with (first | ((with_reducible refine gate_callee (f := 27) rfl ?_); refine goesL_ (some 55) rfl rfl Try.func27 (by kernel_rfl) rfl #[.slice Ao26 x10_2.length co26, .int .i64 (t205.length : Int)] rfl (by (try simp only [List.map_toArray, List.map_cons, List.map_nil]); first | done | rfl | (simp only [List.length_drop, List.length_take]; rfl)) ?_; (with_reducible refine (spec_l2Fill.calls k2 _ _ x10_2 (t205.length : Int) t222 t223 _ ?side1 ?side2 A24.out).mono ?_); (case side1 => repeat (first | exact (Kd.R_reads' HO_10.out).2.2 | (with_reducible refine Kd.C_alloc ?_ _) | (with_reducible refine Kd.C_drewN ?_ _) | (with_reducible refine Kd.C_drew ?_))); (case side2 => exact (Kd.R_reads' HO_10.out).2.1); rintro e w27 ⟨rfl, hb⟩; refine ⟨_, rfl, ?_⟩; have n0_ := Aside0.mk (Kd.R_below (by (with_reducible repeat (first | apply Kd.R_alloc | apply Kd.R_drewN | apply Kd.R_drew)); exact HO_10.out) hb); have n1_ := Aside0.mk (Kd.R_below (by (with_reducible repeat (first | apply Kd.R_alloc | apply Kd.R_drewN | apply Kd.R_drew)); exact HO_213000.out) hb); have n2_ := Aside0.mk (Kd.R_below (by (with_reducible repeat (first | apply Kd.R_alloc | apply Kd.R_drewN | apply Kd.R_drew)); exact HO_213001.out) hb); have n3_ := Aside0.mk (blk_below (g := gb212) (o := .cells #[.slice Ao8 t205.length co8, .slice Ao10 t208.length co10] 36 (0, 0)) (by (with_reducible repeat (first | refine blk_drewN ?_ _ | refine blk_drew ?_ | refine blk_alloc ?_ _)); exact BK212.out) hb); have n4_ := Aside0.mk (below_step (by repeat (first | (with_reducible first | exact HB.out | apply below_alloc | apply pw_below_drewN | apply below_drew1 | refine below_set ?_ GE212.out) | exact HB.out)) hb); clear HO_10; clear HO_213000; clear HO_213001; clear BK212; clear HB; have HO_10 := n0_; have HO_213000 := n1_; have HO_213001 := n2_; have BK212 := n3_; have HB := n4_; clear n0_ n1_ n2_ n3_ n4_; (try clear hb); (try clear hb2); (try clear hk); (try clear hi)))
              go_ret2
              exact ⟨by first | rfl | (simp [errW_none, errW_some] <;> rfl) | (simp [*, errW_none, errW_some] <;> rfl) | (simp [errW_none, errW_some]; exact ⟨rfl, rfl⟩), by repeat (first | (with_reducible first | exact HB.out | apply below_alloc | apply pw_below_drewN | apply below_drew1 | refine below_set ?_ GE212.out) | exact HB.out)⟩

end Go.Proofs.Ytpammnkboogceaa.P

namespace Go.Proofs.Ytpammnkboogceaa.P
open Go.RowKit Go.Proofs.YtpammnkboogceaaW.PrintWords Go.Proofs.YtpammnkboogceaaW.PrintLast Go.Proofs.YtpammnkboogceaaW.PrintMore
attribute [local go_sem] max2_int min2_int max_two min_two max_three min_three max_four min_four   -- for this text's walks alone
set_option linter.unusedVariables false
set_option linter.unusedSimpArgs false

/-! ### laws_FnExactMakeEvery: function 3 -/
noncomputable def laws_FnExactMakeEvery.f (k : Nat) (a0 : ByteArray) (a1 : Int) (a2 : Int) : Option (Bool) := if (a0.size : Int) > 1048576 then (some true) else ((spec_MakeEvery.f k a0 a1 a2).bind fun bt289 => ((impl_MakeEvery.f a0 a1 a2).bind fun bt291 => (if bt291.1.toList = bt289.1.toList then (if (bt291.2 != bt289.2) = true then (some false) else (some true)) else (some false))))
theorem laws_FnExactMakeEvery.mono : ∀ a0 a1 a2 k, LeO (laws_FnExactMakeEvery.f k a0 a1 a2) (laws_FnExactMakeEvery.f (k + 1) a0 a1 a2) := by
  intro a0 a1 a2 k
  unfold laws_FnExactMakeEvery.f
  repeat' first
      | (with_reducible exact spec_MakeEvery.mono _ _ _ _)
      | (with_reducible exact LeO.refl _)
      | (with_reducible exact LeO.none _)
      | (with_reducible refine LeO.ite ?_ ?_)
      | (with_reducible refine LeO.bind ?_ (fun _ => ?_))
      | exact spec_MakeEvery.mono _ _ _ _
      | exact LeO.none _
      | refine LeO.ite ?_ ?_
      | refine LeO.bind ?_ (fun _ => ?_)
set_option maxHeartbeats 8000000 in
set_option maxRecDepth 100000 in
theorem laws_FnExactMakeEvery.calls (k : Nat) (a0 : ByteArray) (a1 : Int) (a2 : Int) (r : Bool) (w : World) (h : laws_FnExactMakeEvery.f k a0 a1 a2 = some r) :
    Calls Try.prog 3 #[.string a0, .int .i64 a1, .int .i64 a2] w fun e w' => e = .returned (.bool r) ∧ Below w.heap.size w w' := by
  have HB := Aside0.mk (Below.refl w.heap.size w)
  have H : (if (a0.size : Int) > 1048576 then (some true) else ((spec_MakeEvery.f k a0 a1 a2).bind fun bt289 => ((impl_MakeEvery.f a0 a1 a2).bind fun bt291 => (if bt291.1.toList = bt289.1.toList then (if (bt291.2 != bt289.2) = true then (some false) else (some true)) else (some false))))) = some r := h
  clear h
  by_cases c4 : (a0.size : Int) > 1048576
  · rw [if_pos c4] at H
    have c4b0 : decide (1048576 < (a0.size : Int)) = true := decide_eq_true c4
    have c4b1 : decide (1048576 < a0.size) = true := decide_eq_true (by omega)
    clear c4
    obtain rfl := Option.some.inj H
    go_enter Try.func3, Try.ntmps3
    go_wp2
    go_ret
    exact ⟨by first | rfl | (simp [errW_none, errW_some] <;> rfl) | (simp [*, errW_none, errW_some] <;> rfl) | (simp [errW_none, errW_some]; exact ⟨rfl, rfl⟩), by repeat (first | (with_reducible first | exact HB.out | apply below_alloc | apply pw_below_drewN | apply below_drew1) | exact HB.out)⟩
  · rw [if_neg c4] at H
    have c4b0 : decide (1048576 < (a0.size : Int)) = false := decide_eq_false c4
    have c4b1 : decide (1048576 < a0.size) = false := decide_eq_false (by omega)
    clear c4
    replace H := Option.bind_eq_some_iff.mp H
    obtain ⟨⟨t289, t290⟩, A50, H⟩ := H
    replace H : ((impl_MakeEvery.f a0 a1 a2).bind fun bt291 => (if bt291.1.toList = t289.toList then (if (bt291.2 != t290) = true then (some false) else (some true)) else (some false))) = some r := H
    have A5 := Aside0.mk A50
    clear A50
    replace H := Option.bind_eq_some_iff.mp H
    obtain ⟨⟨t291, t292⟩, A60, H⟩ := H
    replace H : (if t291.toList = t289.toList then (if (t292 != t290) = true then (some false) else (some true)) else (some false)) = some r := H
    have A6 := Aside0.mk A60
    clear A60
    by_cases c7 : t291.toList = t289.toList
    · rw [if_pos c7] at H
      have c7b0 : (t291.toList == t289.toList) = true := beq_iff_eq.mpr c7
      have c7b1 : (t291.toList != t289.toList) = false := bne_eq_false_iff_eq.mpr c7
      clear c7
      by_cases c8 : (t292 != t290) = true
      · rw [if_pos c8] at H
        have c8b0 : (t292 != t290) = true := c8
        (try (have c8b1 : decide (t292 = t290) = false := by simpa using c8))
        (try (have c8b2 : (t292 == t290) = false := by simpa using c8))
        (try (have c8b3 : ¬ (t292 = t290) := by simpa using c8))
        clear c8
        obtain rfl := Option.some.inj H
        go_enter Try.func3, Try.ntmps3
        go_wp2_with (first | ((with_reducible refine gate_callee (f := 9) rfl ?_); refine goesL_ (some 18) rfl rfl Try.func9 (by kernel_rfl) rfl #[.string a0, .int .i64 a1, .int .i64 a2] rfl (by (try simp only [List.map_toArray, List.map_cons, List.map_nil]); first | done | rfl | (simp only [List.length_drop, List.length_take]; rfl)) ?_; (with_reducible refine (spec_MakeEvery.calls k a0 a1 a2 t289 t290 _ A5.out).mono ?_); rintro e w9 ⟨rfl, hb⟩; refine ⟨_, rfl, ?_⟩; have n0_ := Aside0.mk (below_step (by repeat (first | (with_reducible first | exact HB.out | apply below_alloc | apply pw_below_drewN | apply below_drew1) | exact HB.out)) hb); clear HB; have HB := n0_; clear n0_; (try clear hb); (try clear hb2); (try clear hk); (try clear hi)) | ((with_reducible refine gate_callee (f := 10) rfl ?_); refine goesL_ (some 25) rfl rfl Try.func10 (by kernel_rfl) rfl #[.string a0, .int .i64 a1, .int .i64 a2] rfl (by (try simp only [List.map_toArray, List.map_cons, List.map_nil]); first | done | rfl | (simp only [List.length_drop, List.length_take]; rfl)) ?_; (with_reducible refine (impl_MakeEvery.calls a0 a1 a2 t291 t292 _ A6.out).mono ?_); rintro e w10 ⟨rfl, hb⟩; refine ⟨_, rfl, ?_⟩; have n0_ := Aside0.mk (below_step (by repeat (first | (with_reducible first | exact HB.out | apply below_alloc | apply pw_below_drewN | apply below_drew1) | exact HB.out)) hb); clear HB; have HB := n0_; clear n0_; (try clear hb); (try clear hb2); (try clear hk); (try clear hi)))
        go_ret
        exact ⟨by first | rfl | (simp [errW_none, errW_some] <;> rfl) | (simp [*, errW_none, errW_some] <;> rfl) | (simp [errW_none, errW_some]; exact ⟨rfl, rfl⟩), by repeat (first | (with_reducible first | exact HB.out | apply below_alloc | apply pw_below_drewN | apply below_drew1) | exact HB.out)⟩
      · rw [if_neg c8] at H
        have c8b0 : (t292 != t290) = false := by simpa using c8
        (try (have c8b1 : decide (t292 = t290) = true := by simpa using c8))
        (try (have c8b2 : (t292 == t290) = true := by simpa using c8))
        clear c8
        obtain rfl := Option.some.inj H
        go_enter Try.func3, Try.ntmps3
        go_wp2_with (first | ((with_reducible refine gate_callee (f := 9) rfl ?_); refine goesL_ (some 18) rfl rfl Try.func9 (by kernel_rfl) rfl #[.string a0, .int .i64 a1, .int .i64 a2] rfl (by (try simp only [List.map_toArray, List.map_cons, List.map_nil]); first | done | rfl | (simp only [List.length_drop, List.length_take]; rfl)) ?_; (with_reducible refine (spec_MakeEvery.calls k a0 a1 a2 t289 t290 _ A5.out).mono ?_); rintro e w11 ⟨rfl, hb⟩; refine ⟨_, rfl, ?_⟩; have n0_ := Aside0.mk (below_step (by repeat (first | (with_reducible first | exact HB.out | apply below_alloc | apply pw_below_drewN | apply below_drew1) | exact HB.out)) hb); clear HB; have HB := n0_; clear n0_; (try clear hb); (try clear hb2); (try clear hk); (try clear hi)) | ((with_reducible refine gate_callee (f := 10) rfl ?_); refine goesL_ (some 25) rfl rfl Try.func10 (by kernel_rfl) rfl #[.string a0, .int .i64 a1, .int .i64 a2] rfl (by (try simp only [List.map_toArray, List.map_cons, List.map_nil]); first | done | rfl | (simp only [List.length_drop, List.length_take]; rfl)) ?_; (with_reducible refine (impl_MakeEvery.calls a0 a1 a2 t291 t292 _ A6.out).mono ?_); rintro e w12 ⟨rfl, hb⟩; refine ⟨_, rfl, ?_⟩; have n0_ := Aside0.mk (below_step (by repeat (first | (with_reducible first | exact HB.out | apply below_alloc | apply pw_below_drewN | apply below_drew1) | exact HB.out)) hb); clear HB; have HB := n0_; clear n0_; (try clear hb); (try clear hb2); (try clear hk); (try clear hi)))
        go_ret
        exact ⟨by first | rfl | (simp [errW_none, errW_some] <;> rfl) | (simp [*, errW_none, errW_some] <;> rfl) | (simp [errW_none, errW_some]; exact ⟨rfl, rfl⟩), by repeat (first | (with_reducible first | exact HB.out | apply below_alloc | apply pw_below_drewN | apply below_drew1) | exact HB.out)⟩
    · rw [if_neg c7] at H
      have c7b0 : (t291.toList == t289.toList) = false := beq_eq_false_iff_ne.mpr c7
      have c7b1 : (t291.toList != t289.toList) = true := bne_iff_ne.mpr c7
      obtain rfl := Option.some.inj H
      go_enter Try.func3, Try.ntmps3
      go_wp2_with (first | ((with_reducible refine gate_callee (f := 9) rfl ?_); refine goesL_ (some 18) rfl rfl Try.func9 (by kernel_rfl) rfl #[.string a0, .int .i64 a1, .int .i64 a2] rfl (by (try simp only [List.map_toArray, List.map_cons, List.map_nil]); first | done | rfl | (simp only [List.length_drop, List.length_take]; rfl)) ?_; (with_reducible refine (spec_MakeEvery.calls k a0 a1 a2 t289 t290 _ A5.out).mono ?_); rintro e w13 ⟨rfl, hb⟩; refine ⟨_, rfl, ?_⟩; have n0_ := Aside0.mk (below_step (by repeat (first | (with_reducible first | exact HB.out | apply below_alloc | apply pw_below_drewN | apply below_drew1) | exact HB.out)) hb); clear HB; have HB := n0_; clear n0_; (try clear hb); (try clear hb2); (try clear hk); (try clear hi)) | ((with_reducible refine gate_callee (f := 10) rfl ?_); refine goesL_ (some 25) rfl rfl Try.func10 (by kernel_rfl) rfl #[.string a0, .int .i64 a1, .int .i64 a2] rfl (by (try simp only [List.map_toArray, List.map_cons, List.map_nil]); first | done | rfl | (simp only [List.length_drop, List.length_take]; rfl)) ?_; (with_reducible refine (impl_MakeEvery.calls a0 a1 a2 t291 t292 _ A6.out).mono ?_); rintro e w14 ⟨rfl, hb⟩; refine ⟨_, rfl, ?_⟩; have n0_ := Aside0.mk (below_step (by repeat (first | (with_reducible first | exact HB.out | apply below_alloc | apply pw_below_drewN | apply below_drew1) | exact HB.out)) hb); clear HB; have HB := n0_; clear n0_; (try clear hb); (try clear hb2); (try clear hk); (try clear hi)))
      go_ret
      exact ⟨by first | rfl | (simp [errW_none, errW_some] <;> rfl) | (simp [*, errW_none, errW_some] <;> rfl) | (simp [errW_none, errW_some]; exact ⟨rfl, rfl⟩), by repeat (first | (with_reducible first | exact HB.out | apply below_alloc | apply pw_below_drewN | apply below_drew1) | exact HB.out)⟩

/-- THE ONE PURE STATEMENT of laws_FnExactMakeEvery: yours. -/
noncomputable def laws_FnExactMakeEvery.Pure : Prop := ∀ (a0 : ByteArray) (a1 : Int) (a2 : Int), a0.size ≤ 140737488351232 → (Lit.int .i64 a1).wf = true → (Lit.int .i64 a2).wf = true → ∃ k, laws_FnExactMakeEvery.f k a0 a1 a2 = some true
theorem laws_FnExactMakeEvery.walk (P : laws_FnExactMakeEvery.Pure) (a0 : ByteArray) (a1 : Int) (a2 : Int) (w : World) (w0 : a0.size ≤ 140737488351232) (w1 : (Lit.int .i64 a1).wf = true) (w2 : (Lit.int .i64 a2).wf = true) :
    Calls Try.prog 3 #[.string a0, .int .i64 a1, .int .i64 a2] w fun e w' => e = .returned (.bool true) ∧ Below w.heap.size w w' := by
  obtain ⟨k, h⟩ := P a0 a1 a2 w0 w1 w2
  refine (laws_FnExactMakeEvery.calls k a0 a1 a2 true w h).mono ?_
  rintro e w' ⟨rfl, hd⟩
  exact ⟨rfl, hd⟩

end Go.Proofs.Ytpammnkboogceaa.P

-- For all arguments the law FnExactMakeEvery holds.
namespace Go.Proofs.Ytpammnkboogceaa.P
open Go.RowKit Go.Proofs.YtpammnkboogceaaW.PrintWords Go.Proofs.YtpammnkboogceaaW.PrintLast Go.Proofs.YtpammnkboogceaaW.PrintMore
set_option linter.unusedVariables false
set_option linter.unusedSimpArgs false

theorem smakeEvery_l0 (a b : List Bool) (hb : b ≠ []) (ha : a.length ≤ 60) (hbl : b.length ≤ 60) (k r : Nat) (h1k : 1 ≤ k) (hk : k ≤ 20) (hr : r ≤ 100) : ∀ (d x : Nat), x ≤ a.length + b.length → a.length + b.length - x = d →
    Ev (fun n => spec_MakeEvery.l0 n k r (mkT (evq (hasB a b) k r) x) x a b) (txt (cn (evq (hasB a b) k r))) := by
  have hpos := List.length_pos_iff.2 hb
  have hper := evq_per (hasB_per a b) h1k r
  have hw : wrap64 ((a.length : Int) + (b.length : Int)) = ((a.length + b.length : Nat) : Int) := wadd (by omega)
  intro d
  induction d with
  | zero =>
    intro x h1 h2
    have e : x = a.length + b.length := by omega
    subst e
    refine Ev.step (f := fun n => (spec_l2Fill.f n (mkT (evq (hasB a b) k r) (a.length + b.length)) (a.length : Int)).bind fun bt309 => (some (bt309.1, bt309.2))) (fun n => ?_) (Ev.bind (fill_f hpos hper (by omega)) (Ev.now _))
    simp only [spec_MakeEvery.l0]
    rw [hw, if_neg (by omega)]
  | succ d ih =>
    intro x h1 h2
    have hm : k * x ≤ 20 * 120 := Nat.mul_le_mul hk (by omega)
    have e3 : k * x + r ≤ 100000 := by omega
    have e1 : wrap64 ((k : Int) * (x : Int)) = ((k * x : Nat) : Int) := by rw [← Int.natCast_mul]; generalize k * x = y at hm ⊢; exact w64 (by omega) (by omega)
    have e2 : wrap64 (((k * x : Nat) : Int) + (r : Int)) = ((k * x + r : Nat) : Int) := by generalize k * x = y at hm ⊢; exact wadd (by omega)
    refine Ev.step (fun n => ?_) (ih (x + 1) (by omega) (by omega))
    simp only [spec_MakeEvery.l0]
    rw [hw, if_pos (by clear e1 e2; omega), e1, e2, shas_f a b hb (by clear e1 e2 hw; omega) _ (Nat.le_trans e3 (by decide))]
    simp only [Option.bind_some]
    rw [if_pos (by rw [mkT_length]; omega), wsucc (by omega), mkT_succ]; rfl
theorem makeEvery_f (s : ByteArray) (hs : s.size ≤ 70368744177664) (k r : Int) : impl_MakeEvery.f s k r = some (evr (chrs s) k r) := by unfold impl_MakeEvery.f; rw [if_pos hs]
theorem smakeEvery_f (s : ByteArray) (hs : s.size ≤ 70368744177664) (k r : Int) : Ev (fun n => spec_MakeEvery.f n s k r) (evr (chrs s) k r) := by
  have out : ∀ a b, Ev (fun n => spec_MakeEvery.j0 n k r true a b) ((⟨#[]⟩ : ByteArray), false) := fun a b => by
    refine Ev.step (f := fun n => some ((⟨#[]⟩ : ByteArray), false)) (fun n => ?_) (Ev.now _)
    simp only [spec_MakeEvery.j0]; rfl
  refine Ev.congr (fun n => rfl) (Ev.bind (read_f s hs) ?_)
  unfold parsed
  cases h : parse (chrs s) with
  | none =>
    have e : evr (chrs s) k r = (⟨#[]⟩, false) := by unfold evr; rw [h]; rfl
    rw [e]; simp only [Bool.false_eq_true, if_false]; exact out _ _
  | some ab =>
    have hb := parse_some (a := ab.1) (b := ab.2) h
    simp only [if_true, l6in_f, Option.bind_some]
    by_cases hk : 1 ≤ k ∧ k ≤ 20
    · by_cases hr : 0 ≤ r ∧ r ≤ 100
      · obtain ⟨k, rfl⟩ := Int.eq_ofNat_of_zero_le (show 0 ≤ k by omega)
        obtain ⟨r, rfl⟩ := Int.eq_ofNat_of_zero_le hr.1
        have e : evr (chrs s) k r = txt (cn (evq (hasB ab.1 ab.2) k r)) := by
          unfold evr; rw [h, setf_some (a := ab.1) (b := ab.2) h, decide_eq_true hk, decide_eq_true hr, Int.toNat_natCast, Int.toNat_natCast]; rfl
        rw [e]
        simp only [decide_eq_true hk, decide_eq_true hr, if_true, Bool.not_true]
        refine Ev.step (fun n => ?_) (smakeEvery_l0 ab.1 ab.2 hb.2.2 hb.1 hb.2.1 k r (by omega) (by omega) (by omega) _ 0 (by omega) rfl)
        simp only [spec_MakeEvery.j0]
        rw [if_neg (by decide)]; rfl
      · have e : evr (chrs s) k r = (⟨#[]⟩, false) := by unfold evr; rw [decide_eq_false hr, Bool.and_false, Bool.and_false]; rfl
        rw [e]; simp only [decide_eq_true hk, decide_eq_false hr, if_true, Bool.not_false]; exact out _ _
    · have e : evr (chrs s) k r = (⟨#[]⟩, false) := by unfold evr; rw [decide_eq_false hk, Bool.false_and, Bool.and_false]; rfl
      rw [e]; simp only [decide_eq_false hk, Bool.false_eq_true, if_false]; exact out _ _
theorem lawExactMakeEvery_ev (s : ByteArray) (a b : Int) : Ev (fun k => laws_FnExactMakeEvery.f k s a b) true := by
  by_cases hl : (s.size : Int) > 1048576
  · refine Ev.congr (f := fun _ => some true) (fun k => ?_) (Ev.now _)
    unfold laws_FnExactMakeEvery.f; rw [if_pos hl]
  · have hs : s.size ≤ 70368744177664 := by omega
    refine Ev.congr (f := fun k => (spec_MakeEvery.f k s a b).bind fun bt402 => ((impl_MakeEvery.f s a b).bind fun bt404 => (if bt404.1.toList = bt402.1.toList then (if (bt404.2 != bt402.2) = true then (some false) else (some true)) else (some false)))) (fun k => ?_) (Ev.bind (smakeEvery_f s hs a b) ?_)
    · unfold laws_FnExactMakeEvery.f; rw [if_neg hl]
    · rw [makeEvery_f s hs]
      simp only [Option.bind_some, if_true, bne_self_eq_false, Bool.false_eq_true, if_false]
      exact Ev.now _
theorem lawExactMakeEvery_pure : laws_FnExactMakeEvery.Pure := fun s a b _ _ _ => (lawExactMakeEvery_ev s a b).rounds
end Go.Proofs.Ytpammnkboogceaa.P

-- For all arguments the law FnExactMakeEvery holds.
namespace Go.Proofs.Ytpammnkboogceaa.Pure
theorem FnExactMakeEvery : Go.Proofs.Ytpammnkboogceaa.P.laws_FnExactMakeEvery.Pure := Go.Proofs.Ytpammnkboogceaa.P.lawExactMakeEvery_pure
end Go.Proofs.Ytpammnkboogceaa.Pure
