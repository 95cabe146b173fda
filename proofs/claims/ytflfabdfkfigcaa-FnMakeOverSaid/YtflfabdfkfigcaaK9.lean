/- What these laws reach, joined by a program of this session: contracts (written by that program over the kit's print, or by hand) and plain lemmas. -/
import Derived.Test.YtflfabdfkfigcaaK1
import Derived.Test.YtflfabdfkfigcaaK2
import Derived.Test.YtflfabdfkfigcaaK3
import Derived.Test.YtflfabdfkfigcaaK4
import Derived.Test.YtflfabdfkfigcaaK5
-- impl.MakeOver: all whole parts over k.
namespace Go.Proofs.Ytflfabdfkfigcaa.P
open Go.RowKit Go.Proofs.YtflfabdfkfigcaaW.PrintWords Go.Proofs.YtflfabdfkfigcaaW.PrintLast Go.Proofs.YtflfabdfkfigcaaW.PrintMore
set_option linter.unusedVariables false
set_option linter.unusedSimpArgs false

/-- All whole parts over k. -/
def ovq (f : Nat → Bool) (k : Nat) : Nat → Bool := fun n => (List.range k).any fun i => f (k * n + i)
theorem ovq_per {f : Nat → Bool} {m p : Nat} (h : Per f m p) {k : Nat} (hk : 1 ≤ k) : Per (ovq f k) m p := fun n hn => by
  unfold ovq
  congr 1
  funext i
  have h1 := h.mul k (k * n + i) (by have := Nat.mul_le_mul hk hn; omega)
  rw [Nat.mul_add, show k * n + k * p + i = k * n + i + k * p by omega, h1]
theorem ovq_true {f : Nat → Bool} {k n i : Nat} (hi : i < k) (h : f (k * n + i) = true) : ovq f k n = true := by
  unfold ovq; rw [List.any_eq_true]; exact ⟨i, List.mem_range.2 hi, h⟩
theorem ovq_false {f : Nat → Bool} {k n : Nat} (h : ∀ i, i < k → f (k * n + i) = false) : ovq f k n = false := by
  unfold ovq; rw [List.any_eq_false]; intro i hi; rw [h i (List.mem_range.1 hi)]; decide
/-- What impl.MakeOver answers. -/
noncomputable def ovr (s : List UInt8) (k : Int) : ByteArray × Bool := if (parse s).isSome && decide (1 ≤ k ∧ k ≤ 20) then txt (cn (ovq (setf s) k.toNat)) else (⟨#[]⟩, false)
noncomputable def impl_MakeOver.f (s : ByteArray) (k : Int) : Option (ByteArray × Bool) := if s.size ≤ 70368744177664 then some (ovr (chrs s) k) else none
theorem makeOver_f (s : ByteArray) (hs : s.size ≤ 70368744177664) (k : Int) : impl_MakeOver.f s k = some (ovr (chrs s) k) := by unfold impl_MakeOver.f; rw [if_pos hs]

set_option maxHeartbeats 8000000 in
set_option maxRecDepth 100000 in
theorem over_q_calls (t r : List Bool) (hr : r ≠ []) (hl : t.length ≤ 60 ∧ r.length ≤ 60) (A0 : Option Addr) (c0 : Nat) (A1 : Option Addr) (c1 n k b : Nat) (hn : n ≤ 10000) (hk : k ≤ 1000) (W : World)
    (hC0 : Kd.C Kd.bool W A0 t.length t) (h0 : t.length ≤ c0) (hC1 : Kd.C Kd.bool W A1 r.length r) (h1 : r.length ≤ c1) (hb : W.cell? ⟨b, 0, none⟩ = some (.int .i64 (k : Int))) :
    Calls Try.prog 36 #[.agg #[.slice A0 t.length c0, .slice A1 r.length c1], .int .i64 n, .pointer (some ⟨b, 0, none⟩)] W fun e w' => e = .returned (.bool (ovq (hasB t r) k n)) ∧ Below W.heap.size W w' := by
  have hm : k * n ≤ 1000 * 10000 := Nat.mul_le_mul hk hn
  have hs1 : IntKind.i64.wrap ((k : Int) * (n : Int)) = ((k * n : Nat) : Int) := by rw [IntKind.wrap_i64, ← Int.natCast_mul]; generalize k * n = x at *; omega
  have HC := fun (W' : World) (hw : Below W.heap.size W W') (i : Nat) (hi : k * n + i ≤ 70368744177664) => Aside0.mk (impl_set_has.calls A0 c0 t A1 c1 r ((k * n + i : Nat) : Int) (hasB t r (k * n + i)) W' (Kd.C_below hC0 hw) h0 (Kd.C_below hC1 hw) h1 (ihas_f t r hr (by omega) (k * n + i) hi))
  have hT : ∀ i, i < k → hasB t r (k * n + i) = true → ovq (hasB t r) k n = true := fun i hi h => ovq_true hi h
  have hF : (∀ i, i < k → hasB t r (k * n + i) = false) → ovq (hasB t r) k n = false := ovq_false
  have hbl : b < W.heap.size := World.block_lt_of_cell? W _ hb
  have hu := Try.underlying44
  have hcb : ∀ W', Below W.heap.size W W' → W'.cell? ⟨b, 0, none⟩ = some (.int .i64 (k : Int)) := fun W' hw => (hw.cell (p := ⟨b, 0, none⟩) hbl).trans hb
  have hb1 : ∀ o, (W.alloc o).cell? ⟨b, 0, none⟩ = some (.int .i64 (k : Int)) := fun o => Lib.cell?_alloc_some _ hb
  generalize ovq (hasB t r) k n = res at *
  generalize k * n = x at *
  clear hC0 hC1 h0 h1 hl hr
  go_enter Try.func36, Try.ntmps36
  go_wp2
  go_loopg [8] k (fun gg s8 wr => ∃ i : Nat, i ≤ k ∧ k - i ≤ gg ∧ s8 = .int .i64 i ∧ Aside0 (∀ j, j < i → hasB t r (x + j) = false) ∧ Aside0 (Below W.heap.size W wr) ∧ wr.cell? ⟨W.heap.size, 0, none⟩ = some (.slice A0 t.length c0) ∧ wr.cell? ⟨W.heap.size, 1, none⟩ = some (.slice A1 r.length c1) ∧ W.heap.size < wr.heap.size)
  case atStart => exact ⟨0, Nat.zero_le _, by omega, rfl, ⟨fun j hj => by omega⟩, ⟨below_alloc (Below.refl _ _) _⟩, by simp, by simp, by simp⟩
  case round =>
    obtain ⟨i, hi, hgg, rfl, HF, HB, d0, d1, hlt⟩ := hrel
    have db := hcb _ HB.out
    by_cases hik : i < k
    · have hs2 : IntKind.i64.wrap ((x : Int) + (i : Int)) = ((x + i : Nat) : Int) := by rw [IntKind.wrap_i64]; omega
      have HC1 := HC _ HB.out i (by omega)
      cases hv : hasB t r (x + i) with
      | true =>
        have hT1 := Aside0.mk (hT i hik hv)
        rw [hv] at HC1
        clear HC hT hF hcb hv
        go_wp2_with (go_at_call 37; refine HC1.out.mono ?_; rintro e w1 ⟨rfl, hd⟩)
        go_ret
        exact ⟨by rw [hT1.out]; rfl, below_step HB.out hd⟩
      | false =>
        rw [hv] at HC1
        have HV := Aside0.mk hv
        clear HC hT hF hcb hv
        go_wp2_with (go_at_call 37; refine HC1.out.mono ?_; rintro e w1 ⟨rfl, hd⟩)
        go_roundg (k - (i + 1))
        case measure => omega
        case rel => exact ⟨i + 1, by omega, by omega, by go_num, ⟨fun j hj => by
          rcases Nat.lt_or_ge j i with h | h
          · exact HF.out j h
          · rw [show j = i by omega]; exact HV.out⟩, ⟨below_step HB.out hd⟩, (hd.cell (p := ⟨W.heap.size, 0, none⟩) hlt).trans d0, (hd.cell (p := ⟨W.heap.size, 1, none⟩) hlt).trans d1, Nat.lt_of_lt_of_le hlt hd.size⟩
    · have e : i = k := by omega
      subst e
      have hF1 := Aside0.mk (hF HF.out)
      clear HC hT hF hcb
      go_wp2
      go_ret
      exact ⟨by rw [hF1.out]; rfl, HB.out⟩

set_option maxHeartbeats 8000000 in
set_option maxRecDepth 100000 in
theorem impl_MakeOver.calls (a0 : ByteArray) (a1 : Int) (r1 : ByteArray) (r2 : Bool) (w : World) (h : impl_MakeOver.f a0 a1 = some (r1, r2)) :
    Calls Try.prog 10 #[.string a0, .int .i64 a1] w fun e w' => e = .returned (.tuple #[.string r1, .bool r2]) ∧ Below w.heap.size w w' := by
  unfold impl_MakeOver.f at h
  split at h
  · rename_i hs
    simp only [Option.some.injEq] at h
    have hin := in_f a1 1 20
    obtain ⟨bm, hbm⟩ : ∃ bm, decide (1 ≤ a1 ∧ a1 ≤ 20) = bm := ⟨_, rfl⟩
    have eg : ∀ args w, (callFunc 36 args).run Try.prog w = .ok (.enter 36 args) w := enters_of Try.func36 (by kernel_rfl) rfl
    have hx : ∀ w1 : World, w1.cell? ⟨w.heap.size, 0, none⟩ = some (.int .i64 a1) → w.heap.size < w1.heap.size → Calls Try.prog 34 #[.string a0, .bool bm, .func (.func 36) #[] #[.pointer (some ⟨w.heap.size, 0, none⟩)]] w1 fun e w' => e = .returned (.tuple #[.string r1, .bool r2]) ∧ Below w1.heap.size w1 w' := by
      intro w1 hc hlt
      have := single_calls a0 hs (decide (1 ≤ a1 ∧ a1 ≤ 20)) 36 #[.pointer (some ⟨w.heap.size, 0, none⟩)] (ovq (setf (chrs a0)) a1.toNat) w1 eg
        (fun hm t r hp => by
          have hm := of_decide_eq_true hm
          rw [setf_some hp]; exact ovq_per (hasB_per t r) (by omega))
        (fun hm t r hp W A0 c0 A1 c1 n hW hC0 h0 hC1 h1 hn => by
          have hb := parse_some hp
          have hm := of_decide_eq_true hm
          obtain ⟨k, rfl⟩ := Int.eq_ofNat_of_zero_le (show 0 ≤ a1 by omega)
          rw [setf_some hp, Int.toNat_natCast]
          exact over_q_calls t r hb.2.2 ⟨hb.1, hb.2.1⟩ A0 c0 A1 c1 n k w.heap.size (by omega) (by omega) W hC0 h0 hC1 h1 ((hW.cell (p := ⟨w.heap.size, 0, none⟩) hlt).trans hc))
      unfold ovr at h
      rw [h, hbm] at this
      exact this
    rw [hbm] at hin
    clear hbm
    have HX := Aside0.mk hx
    have HI := fun w => Aside0.mk (impl_in.calls a1 1 20 _ w hin)
    clear hx h hs hin eg
    go_enter Try.func10, Try.ntmps10
    go_wp2_with (first
      | (go_at_call 35; refine (HI _).out.mono ?_; rintro e w1 ⟨rfl, hd⟩; have hb := drawn0_below hd; have c1 := (hb.cell (p := ⟨w.heap.size, 0, none⟩) (by simp)).trans (by simp : (w.alloc (.cells #[.int .i64 a1] _)).cell? ⟨w.heap.size, 0, none⟩ = some (.int .i64 a1)); have hl1 : w.heap.size < w1.heap.size := Nat.lt_of_lt_of_le (by simp) hb.size; have HB := Aside0.mk (below_step (below_alloc (Below.refl w.heap.size w) _) hb); clear hd hb)
      | (go_at_call 34; refine (HX.out _ c1 hl1).mono ?_; rintro e w2 ⟨rfl, hb2⟩))
    go_ret2
    exact ⟨rfl, below_step HB.out hb2⟩
  · cases h
end Go.Proofs.Ytflfabdfkfigcaa.P

namespace Go.Proofs.Ytflfabdfkfigcaa.P
open Go.RowKit Go.Proofs.YtflfabdfkfigcaaW.PrintWords Go.Proofs.YtflfabdfkfigcaaW.PrintLast Go.Proofs.YtflfabdfkfigcaaW.PrintMore
attribute [local go_sem] max2_int min2_int max_two min_two max_three min_three max_four min_four   -- for this text's walks alone
set_option linter.unusedVariables false
set_option linter.unusedSimpArgs false

/-! ### spec_DrawMakeOver: function 9 -/
def spec_DrawMakeOver.f (k : Nat) (l0 : List Int) : Option (ByteArray × Int) := (spec_l6Open.f l0).bind fun bt141 => ((spec_l91Set.f k bt141.1 bt141.2).bind fun bt144 => ((spec_l91Number.f k bt141.1 bt144.2 19).bind fun bt146 => (some (bt144.1, wrap64 (1 + bt146.1)))))
theorem spec_DrawMakeOver.mono : ∀ a0 k, LeO (spec_DrawMakeOver.f k a0) (spec_DrawMakeOver.f (k + 1) a0) := by
  intro a0 k
  unfold spec_DrawMakeOver.f
  repeat' first
      | (with_reducible exact spec_l91Number.mono _ _ _ _)
      | (with_reducible exact spec_l91Set.mono _ _ _)
      | (with_reducible exact LeO.refl _)
      | (with_reducible exact LeO.none _)
      | (with_reducible refine LeO.ite ?_ ?_)
      | (with_reducible refine LeO.bind ?_ (fun _ => ?_))
      | exact spec_l91Number.mono _ _ _ _
      | exact spec_l91Set.mono _ _ _
      | exact LeO.none _
      | refine LeO.ite ?_ ?_
      | refine LeO.bind ?_ (fun _ => ?_)
set_option maxHeartbeats 8000000 in
set_option maxRecDepth 100000 in
theorem spec_DrawMakeOver.calls (k : Nat) (A0 : Option Addr) (c0 : Nat) (l0 : List Int) (r1 : ByteArray) (r2 : Int) (w : World) (hr0 : Kd.C (Kd.int .u8) w A0 l0.length l0) (hc0 : l0.length ≤ c0) (h : spec_DrawMakeOver.f k l0 = some (r1, r2)) :
    Calls Try.prog 9 #[.slice A0 l0.length c0] w fun e w' => e = .returned (.tuple #[.string r1, .int .i64 r2]) ∧ Below w.heap.size w w' := by
  have HR0 := Aside0.mk hr0
  have HC0 := Aside0.mk hc0
  clear hr0 hc0
  have HB := Aside0.mk (Below.refl w.heap.size w)
  have H : ((spec_l6Open.f l0).bind fun bt141 => ((spec_l91Set.f k bt141.1 bt141.2).bind fun bt144 => ((spec_l91Number.f k bt141.1 bt144.2 19).bind fun bt146 => (some (bt144.1, wrap64 (1 + bt146.1)))))) = some (r1, r2) := h
  clear h
  replace H := Option.bind_eq_some_iff.mp H
  obtain ⟨⟨t141, t142⟩, A20, H⟩ := H
  replace H : ((spec_l91Set.f k t141 t142).bind fun bt144 => ((spec_l91Number.f k t141 bt144.2 19).bind fun bt146 => (some (bt144.1, wrap64 (1 + bt146.1))))) = some (r1, r2) := H
  have A2 := Aside0.mk A20
  clear A20
  replace H := Option.bind_eq_some_iff.mp H
  obtain ⟨⟨t144, t145⟩, A30, H⟩ := H
  replace H : ((spec_l91Number.f k t141 t145 19).bind fun bt146 => (some (t144, wrap64 (1 + bt146.1)))) = some (r1, r2) := H
  have A3 := Aside0.mk A30
  clear A30
  replace H := Option.bind_eq_some_iff.mp H
  obtain ⟨⟨t146, t147⟩, A40, H⟩ := H
  replace H : (some (t144, wrap64 (1 + t146))) = some (r1, r2) := H
  have A4 := Aside0.mk A40
  clear A40
  simp only [Option.some.injEq, Prod.mk.injEq] at H
  obtain ⟨rfl, rfl⟩ := H
  go_enter Try.func9, Try.ntmps9
  go_wp2_with (first | ((with_reducible refine gate_callee (f := 31) rfl ?_); refine goesL_ (some 6) rfl rfl Try.func31 (by kernel_rfl) rfl #[.slice A0 l0.length c0] rfl (by (try simp only [List.map_toArray, List.map_cons, List.map_nil]); first | done | rfl | (simp only [List.length_drop, List.length_take]; rfl)) ?_; (with_reducible refine (spec_l6Open.calls _ _ l0 t141 t142 w _ ?side1 ?side2 ?side3 A2.out).mono ?_); (case side1 => repeat (first | (with_reducible first | exact HB.out | apply below_alloc | apply pw_below_drewN | apply below_drew1) | exact HB.out)); (case side2 => exact HR0.out); (case side3 => exact HC0.out); rintro e w5 ⟨g143, rfl, hi, hb, hb2⟩; refine ⟨_, rfl, ?_⟩; have n0_ := Aside0.mk (hb); have n1_ := Aside0.mk (hi); clear HB; have HB := n0_; have HI143 := n1_; clear n0_ n1_; (try clear hb); (try clear hb2); (try clear hk); (try clear hi)) | ((with_reducible refine gate_callee (f := 32) rfl ?_); refine goesL_ (some 8) rfl rfl Try.func32 (by kernel_rfl) rfl #[.pointer (some ⟨g143, 0, none⟩)] rfl (by (try simp only [List.map_toArray, List.map_cons, List.map_nil]); first | done | rfl | (simp only [List.length_drop, List.length_take]; rfl)) ?_; (with_reducible refine (spec_l91Set.calls k g143 t141 t142 t144 t145 w _ ?side1 ?side2 A3.out).mono ?_); (case side1 => repeat (first | (with_reducible first | exact HI143.out | apply IsS64.alloc | apply IsS64.drewN | apply IsS64.drew | apply IsS64.set_1) | exact HI143.out)); (case side2 => repeat (first | (with_reducible first | exact HB.out | apply below_alloc | apply pw_below_drewN | apply below_drew1 | refine below_set ?_ (IsS64.ge HI143.out)) | exact HB.out)); rintro e w6 ⟨rfl, hi, hb, hk⟩; refine ⟨_, rfl, ?_⟩; have n0_ := Aside0.mk (hb); have n1_ := Aside0.mk (hi); clear HB; clear HI143; have HB := n0_; have HI143 := n1_; clear n0_ n1_; (try clear hb); (try clear hb2); (try clear hk); (try clear hi)) | ((with_reducible refine gate_callee (f := 33) rfl ?_); refine goesL_ (some 10) rfl rfl Try.func33 (by kernel_rfl) rfl #[.pointer (some ⟨g143, 0, none⟩), .int .i64 19] rfl (by (try simp only [List.map_toArray, List.map_cons, List.map_nil]); first | done | rfl | (simp only [List.length_drop, List.length_take]; rfl)) ?_; (with_reducible refine (spec_l91Number.calls k g143 t141 t145 19 t146 t147 w _ ?side1 ?side2 A4.out).mono ?_); (case side1 => repeat (first | (with_reducible first | exact HI143.out | apply IsS64.alloc | apply IsS64.drewN | apply IsS64.drew | apply IsS64.set_1) | exact HI143.out)); (case side2 => repeat (first | (with_reducible first | exact HB.out | apply below_alloc | apply pw_below_drewN | apply below_drew1 | refine below_set ?_ (IsS64.ge HI143.out)) | exact HB.out)); rintro e w7 ⟨rfl, hi, hb, hk⟩; refine ⟨_, rfl, ?_⟩; have n0_ := Aside0.mk (hb); have n1_ := Aside0.mk (hi); clear HB; clear HI143; have HB := n0_; have HI143 := n1_; clear n0_ n1_; (try clear hb); (try clear hb2); (try clear hk); (try clear hi)))
  go_ret2
  exact ⟨by first | rfl | (simp [errW_none, errW_some] <;> rfl) | (simp [*, errW_none, errW_some] <;> rfl) | (simp [errW_none, errW_some]; exact ⟨rfl, rfl⟩), by repeat (first | (with_reducible first | exact HB.out | apply below_alloc | apply pw_below_drewN | apply below_drew1 | refine below_set ?_ (IsS64.ge HI143.out)) | exact HB.out)⟩

end Go.Proofs.Ytflfabdfkfigcaa.P

namespace Go.Proofs.Ytflfabdfkfigcaa.P
open Go.RowKit Go.Proofs.YtflfabdfkfigcaaW.PrintWords Go.Proofs.YtflfabdfkfigcaaW.PrintLast Go.Proofs.YtflfabdfkfigcaaW.PrintMore
attribute [local go_sem] max2_int min2_int max_two min_two max_three min_three max_four min_four   -- for this text's walks alone
set_option linter.unusedVariables false
set_option linter.unusedSimpArgs false

/-! ### spec_MakeOver: function 11 -/
mutual
def spec_MakeOver.j0 : Nat → Int → Bool → List Bool → List Bool → Option (ByteArray × Bool)
  | 0, _, _, _, _ => none
  | k + 1, x1, x23, x325000, x325001 => if x23 = true then (some ((⟨#[]⟩ : ByteArray), false)) else (spec_MakeOver.l0 k x1 (([] : List Bool)) 0 x325000 x325001)
def spec_MakeOver.l0 : Nat → Int → List Bool → Int → List Bool → List Bool → Option (ByteArray × Bool)
  | 0, _, _, _, _, _ => none
  | k + 1, x1, x8, x9, x325000, x325001 => if x9 < (wrap64 ((x325000.length : Int) + (x325001.length : Int))) then (spec_MakeOver.l1 k x1 x8 x9 false 0 x325000 x325001) else ((spec_l2Fill.f k x8 (x325000.length : Int)).bind fun bt329 => (some (bt329.1, bt329.2)))
def spec_MakeOver.l1 : Nat → Int → List Bool → Int → Bool → Int → List Bool → List Bool → Option (ByteArray × Bool)
  | 0, _, _, _, _, _, _, _ => none
  | k + 1, x1, x8, x9, x10, x11, x325000, x325001 => if x11 < x1 then (if x10 = true then (spec_MakeOver.l1 k x1 x8 x9 true (wrap64 (x11 + 1)) x325000 x325001) else ((spec_l1Has.f x325000 x325001 (wrap64 ((wrap64 (x1 * x9)) + x11))).bind fun t331 => (spec_MakeOver.l1 k x1 x8 x9 t331 (wrap64 (x11 + 1)) x325000 x325001))) else (if x8.length < 140737488355328 then (spec_MakeOver.l0 k x1 (x8 ++ [x10]) (wrap64 (x9 + 1)) x325000 x325001) else (none))
end
def spec_MakeOver.f (k : Nat) (a0 : ByteArray) (a1 : Int) : Option (ByteArray × Bool) := (spec_l1Read.f k a0).bind fun bt317 => (if bt317.2.2 = true then ((spec_l6In.f a1 1 20).bind fun t325 => (spec_MakeOver.j0 k a1 (!t325) bt317.1 bt317.2.1)) else (spec_MakeOver.j0 k a1 true bt317.1 bt317.2.1))
theorem spec_MakeOver.mono_l : ∀ k, (∀ y0 y1 y2 y3, LeO (spec_MakeOver.j0 k y0 y1 y2 y3) (spec_MakeOver.j0 (k + 1) y0 y1 y2 y3)) ∧ (∀ y0 y1 y2 y3 y4, LeO (spec_MakeOver.l0 k y0 y1 y2 y3 y4) (spec_MakeOver.l0 (k + 1) y0 y1 y2 y3 y4)) ∧ (∀ y0 y1 y2 y3 y4 y5 y6, LeO (spec_MakeOver.l1 k y0 y1 y2 y3 y4 y5 y6) (spec_MakeOver.l1 (k + 1) y0 y1 y2 y3 y4 y5 y6))
  | 0 => ⟨fun _ _ _ _ r h => by simp [spec_MakeOver.j0] at h, fun _ _ _ _ _ r h => by simp [spec_MakeOver.l0] at h, fun _ _ _ _ _ _ _ r h => by simp [spec_MakeOver.l1] at h⟩
  | k + 1 => by
    obtain ⟨ih0, ih1, ih2⟩ := spec_MakeOver.mono_l k
    refine ⟨?_, ?_, ?_⟩
    · intro y0 y1 y2 y3
      unfold spec_MakeOver.j0
      repeat' first
      | (with_reducible exact ih0 _ _ _ _)
      | (with_reducible exact ih1 _ _ _ _ _)
      | (with_reducible exact ih2 _ _ _ _ _ _ _)
      | (with_reducible exact spec_l1Read.mono _ _)
      | (with_reducible exact spec_l2Fill.mono _ _ _)
      | (with_reducible exact LeO.refl _)
      | (with_reducible exact LeO.none _)
      | (with_reducible refine LeO.ite ?_ ?_)
      | (with_reducible refine LeO.bind ?_ (fun _ => ?_))
      | exact ih0 _ _ _ _
      | exact ih1 _ _ _ _ _
      | exact ih2 _ _ _ _ _ _ _
      | exact spec_l1Read.mono _ _
      | exact spec_l2Fill.mono _ _ _
      | exact LeO.none _
      | refine LeO.ite ?_ ?_
      | refine LeO.bind ?_ (fun _ => ?_)
    · intro y0 y1 y2 y3 y4
      unfold spec_MakeOver.l0
      repeat' first
      | (with_reducible exact ih0 _ _ _ _)
      | (with_reducible exact ih1 _ _ _ _ _)
      | (with_reducible exact ih2 _ _ _ _ _ _ _)
      | (with_reducible exact spec_l1Read.mono _ _)
      | (with_reducible exact spec_l2Fill.mono _ _ _)
      | (with_reducible exact LeO.refl _)
      | (with_reducible exact LeO.none _)
      | (with_reducible refine LeO.ite ?_ ?_)
      | (with_reducible refine LeO.bind ?_ (fun _ => ?_))
      | exact ih0 _ _ _ _
      | exact ih1 _ _ _ _ _
      | exact ih2 _ _ _ _ _ _ _
      | exact spec_l1Read.mono _ _
      | exact spec_l2Fill.mono _ _ _
      | exact LeO.none _
      | refine LeO.ite ?_ ?_
      | refine LeO.bind ?_ (fun _ => ?_)
    · intro y0 y1 y2 y3 y4 y5 y6
      unfold spec_MakeOver.l1
      repeat' first
      | (with_reducible exact ih0 _ _ _ _)
      | (with_reducible exact ih1 _ _ _ _ _)
      | (with_reducible exact ih2 _ _ _ _ _ _ _)
      | (with_reducible exact spec_l1Read.mono _ _)
      | (with_reducible exact spec_l2Fill.mono _ _ _)
      | (with_reducible exact LeO.refl _)
      | (with_reducible exact LeO.none _)
      | (with_reducible refine LeO.ite ?_ ?_)
      | (with_reducible refine LeO.bind ?_ (fun _ => ?_))
      | exact ih0 _ _ _ _
      | exact ih1 _ _ _ _ _
      | exact ih2 _ _ _ _ _ _ _
      | exact spec_l1Read.mono _ _
      | exact spec_l2Fill.mono _ _ _
      | exact LeO.none _
      | refine LeO.ite ?_ ?_
      | refine LeO.bind ?_ (fun _ => ?_)
theorem spec_MakeOver.mono : ∀ a0 a1 k, LeO (spec_MakeOver.f k a0 a1) (spec_MakeOver.f (k + 1) a0 a1) := by
  intro a0 a1 k
  obtain ⟨ih0, ih1, ih2⟩ := spec_MakeOver.mono_l k
  unfold spec_MakeOver.f
  repeat' first
      | (with_reducible exact ih0 _ _ _ _)
      | (with_reducible exact ih1 _ _ _ _ _)
      | (with_reducible exact ih2 _ _ _ _ _ _ _)
      | (with_reducible exact spec_l1Read.mono _ _)
      | (with_reducible exact spec_l2Fill.mono _ _ _)
      | (with_reducible exact LeO.refl _)
      | (with_reducible exact LeO.none _)
      | (with_reducible refine LeO.ite ?_ ?_)
      | (with_reducible refine LeO.bind ?_ (fun _ => ?_))
      | exact ih0 _ _ _ _
      | exact ih1 _ _ _ _ _
      | exact ih2 _ _ _ _ _ _ _
      | exact spec_l1Read.mono _ _
      | exact spec_l2Fill.mono _ _ _
      | exact LeO.none _
      | refine LeO.ite ?_ ?_
      | refine LeO.bind ?_ (fun _ => ?_)
set_option maxHeartbeats 8000000 in
set_option maxRecDepth 100000 in
theorem spec_MakeOver.calls (k : Nat) (a0 : ByteArray) (a1 : Int) (r1 : ByteArray) (r2 : Bool) (w : World) (h : spec_MakeOver.f k a0 a1 = some (r1, r2)) :
    Calls Try.prog 11 #[.string a0, .int .i64 a1] w fun e w' => e = .returned (.tuple #[.string r1, .bool r2]) ∧ Below w.heap.size w w' := by
  have hu48 := Try.underlying48
  have HB := Aside0.mk (Below.refl w.heap.size w)
  have H : ((spec_l1Read.f k a0).bind fun bt317 => (if bt317.2.2 = true then ((spec_l6In.f a1 1 20).bind fun t325 => (spec_MakeOver.j0 k a1 (!t325) bt317.1 bt317.2.1)) else (spec_MakeOver.j0 k a1 true bt317.1 bt317.2.1))) = some (r1, r2) := h
  clear h
  replace H := Option.bind_eq_some_iff.mp H
  obtain ⟨⟨t317, t320, t323⟩, A30, H⟩ := H
  replace H : (if t323 = true then ((spec_l6In.f a1 1 20).bind fun t325 => (spec_MakeOver.j0 k a1 (!t325) t317 t320)) else (spec_MakeOver.j0 k a1 true t317 t320)) = some (r1, r2) := H
  have A3 := Aside0.mk A30
  clear A30
  have HC4 := Aside0.mk H
  clear H
  go_enter Try.func11, Try.ntmps11
  go_upto_region 2 with (first | ((with_reducible refine gate_callee (f := 38) rfl ?_); refine goesL_ (some 14) rfl rfl Try.func38 (by kernel_rfl) rfl #[.string a0] rfl (by (try simp only [List.map_toArray, List.map_cons, List.map_nil]); first | done | rfl | (simp only [List.length_drop, List.length_take]; rfl)) ?_; (with_reducible refine (spec_l1Read.calls k a0 t317 t320 t323 _ A3.out).mono ?_); rintro e w5 ⟨v318, v321, rfl, ho0, ho1, hb⟩; refine ⟨_, rfl, ?_⟩; have n0_ := Aside0.mk (Kd.R_lower ho0 (below_size (by repeat (first | (with_reducible first | exact HB.out | apply below_alloc | apply pw_below_drewN | apply below_drew1) | exact HB.out)))); have n1_ := Aside0.mk (Kd.R_lower ho1 (below_size (by repeat (first | (with_reducible first | exact HB.out | apply below_alloc | apply pw_below_drewN | apply below_drew1) | exact HB.out)))); have n2_ := Aside0.mk (below_step (by repeat (first | (with_reducible first | exact HB.out | apply below_alloc | apply pw_below_drewN | apply below_drew1) | exact HB.out)) hb); clear HB; have HO319 := n0_; have HO322 := n1_; have HB := n2_; clear n0_ n1_ n2_; (try clear hb); (try clear hb2); (try clear hk); (try clear hi); (try clear ho0); (try clear ho1)) | ((with_reducible refine gate_dst (N := 6) rfl ?_); refine box_event ?hg (N := 6) ?hd (cs := #[.slice none 0 0, .slice none 0 0]) (t := 48) ?hr ?_; (case hd => rfl); (case hg => rfl); (case hr => first | (go_simp; done) | (go_simp; rfl)); intro gb324 hg w6 hbox hb; have n0_ := Aside0.mk (Kd.R_below (by (with_reducible repeat (first | apply Kd.R_alloc | apply Kd.R_drewN | apply Kd.R_drew)); exact HO319.out) hb); have n1_ := Aside0.mk (Kd.R_below (by (with_reducible repeat (first | apply Kd.R_alloc | apply Kd.R_drewN | apply Kd.R_drew)); exact HO322.out) hb); have n2_ := Aside0.mk (below_step (by repeat (first | (with_reducible first | exact HB.out | apply below_alloc | apply pw_below_drewN | apply below_drew1) | exact HB.out)) hb); have n3_ := Aside0.mk (hbox); have n4_ := Aside0.mk ((by rw [hg]; exact (below_size (by repeat (first | (with_reducible first | exact HB.out | apply below_alloc | apply pw_below_drewN | apply below_drew1) | exact HB.out))) : w.heap.size ≤ gb324)); have n5_ := Aside0.mk ((by rw [hg]; exact (below_size (by repeat (first | (with_reducible first | exact HB.out | apply below_alloc | apply pw_below_drewN | apply below_drew1) | exact HB.out))) : w.heap.size ≤ gb324)); clear HO319; clear HO322; clear HB; have HO319 := n0_; have HO322 := n1_; have HB := n2_; have BK324 := n3_; have GW324 := n4_; have GE324 := n5_; clear n0_ n1_ n2_ n3_ n4_ n5_; clear hb hbox hg; obtain ⟨Ao7, co7, eo7⟩ := Kd.R_slice HO319.out; subst eo7; have hcz8_0 : w6.cell? ⟨gb324, 0, none⟩ = some (.slice none 0 0) := (blk_cell BK324.out 0).trans rfl; have hcz8_1 : w6.cell? ⟨gb324, 1, none⟩ = some (.slice none 0 0) := (blk_cell BK324.out 1).trans rfl; have hfz8_0 := blk_frozen BK324.out 0; have hfz8_1 := blk_frozen BK324.out 1; obtain ⟨Ao9, co9, eo9⟩ := Kd.R_slice HO322.out; subst eo9))
  (try simp only [Act.put, List.setIfInBounds_toArray, List.set_cons_zero, List.set_cons_succ])
  go_cut [23] (fun v23 wc => ∃ (kq : Nat) (x23_3 : Bool), v23 = .bool x23_3 ∧ Aside0 (spec_MakeOver.j0 kq a1 x23_3 t317 t320 = some (r1, r2)) ∧ Aside0 (kq ≤ k) ∧ Aside0 (Kd.R Kd.bool 4 wc w.heap.size (fun k_ => some k_ ≠ ((.slice Ao9 t320.length co9) : Value).ownBlock) (.slice Ao7 t317.length co7) t317) ∧ Aside0 (Kd.R Kd.bool 4 wc w.heap.size (fun k_ => some k_ ≠ ((.slice Ao7 t317.length co7) : Value).ownBlock) (.slice Ao9 t320.length co9) t320) ∧ Aside0 (wc.heap[gb324]? = some (.cells #[(.slice Ao7 t317.length co7), (.slice Ao9 t320.length co9)] 48 (0, 0))) ∧ Aside0 (Below w.heap.size w wc))
  case first =>
    have H := HC4.out
    clear HC4
    by_cases c10 : t323 = true
    · subst c10
      have H1 : ((spec_l6In.f a1 1 20).bind fun t325 => (spec_MakeOver.j0 k a1 (!t325) t317 t320)) = some (r1, r2) := by rw [if_pos rfl] at H; exact H
      clear H
      have H := H1
      clear H1
      replace H := Option.bind_eq_some_iff.mp H
      obtain ⟨t325, A110, H⟩ := H
      replace H : (spec_MakeOver.j0 k a1 (!t325) t317 t320) = some (r1, r2) := H
      have A11 := Aside0.mk A110
      clear A110
      have H' := Aside0.mk H
      clear H
      go_wp2_with (first | (go_at_call 39; (with_reducible refine (spec_l6In.calls a1 1 20 t325 _ A11.out).mono ?_); rintro e w' ⟨rfl, ⟨nd, rfl⟩⟩))
      go_meet
      case rel => exact ⟨_, (!t325), (by first | rfl | (simp; done) | (simp [*]; done) | (simp [Int.tmod_eq_emod_of_nonneg]; done)), H', ⟨by first | omega | exact Nat.le_refl _⟩, ⟨by (with_reducible repeat (first | apply Kd.R_alloc | apply Kd.R_drewN | apply Kd.R_drew)); exact Kd.R_mono (Kd.R_far (p := ⟨gb324, 1, none⟩) (Kd.R_far (p := ⟨gb324, 0, none⟩) (Kd.R_types HO319.out BK324.out (by decide)) (fun _ hk => hk.2) (.slice Ao7 t317.length co7)) (fun _ hk => hk.2) (.slice Ao9 t320.length co9)) (fun _ hk => hk.1)⟩, ⟨by (with_reducible repeat (first | apply Kd.R_alloc | apply Kd.R_drewN | apply Kd.R_drew)); exact Kd.R_mono (Kd.R_far (p := ⟨gb324, 1, none⟩) (Kd.R_far (p := ⟨gb324, 0, none⟩) (Kd.R_types HO322.out BK324.out (by decide)) (fun _ hk => hk.2) (.slice Ao7 t317.length co7)) (fun _ hk => hk.2) (.slice Ao9 t320.length co9)) (fun _ hk => hk.1)⟩, ⟨by (with_reducible repeat (first | refine blk_drewN ?_ _ | refine blk_drew ?_ | refine blk_alloc ?_ _)); refine blk_put (cs := #[.slice Ao7 t317.length co7, .slice none 0 0]) ?_ 1 _ rfl; (with_reducible repeat (first | refine blk_drewN ?_ _ | refine blk_drew ?_ | refine blk_alloc ?_ _)); refine blk_put (cs := #[.slice none 0 0, .slice none 0 0]) ?_ 0 _ rfl; (with_reducible repeat (first | refine blk_drewN ?_ _ | refine blk_drew ?_ | refine blk_alloc ?_ _)); exact BK324.out⟩, ⟨by repeat (first | (with_reducible first | exact HB.out | apply below_alloc | apply pw_below_drewN | apply below_drew1 | refine below_set ?_ GE324.out) | exact HB.out)⟩⟩
    · replace c10 := Bool.eq_false_iff.mpr c10
      subst c10
      have H1 : (spec_MakeOver.j0 k a1 true t317 t320) = some (r1, r2) := by rw [if_neg (show ¬ (false = true) by decide)] at H; exact H
      clear H
      have H := H1
      clear H1
      have H' := Aside0.mk H
      clear H
      go_wp2
      go_meet
      case rel => exact ⟨_, (true), (by first | rfl | (simp; done) | (simp [*]; done) | (simp [Int.tmod_eq_emod_of_nonneg]; done)), H', ⟨by first | omega | exact Nat.le_refl _⟩, ⟨by (with_reducible repeat (first | apply Kd.R_alloc | apply Kd.R_drewN | apply Kd.R_drew)); exact Kd.R_mono (Kd.R_far (p := ⟨gb324, 1, none⟩) (Kd.R_far (p := ⟨gb324, 0, none⟩) (Kd.R_types HO319.out BK324.out (by decide)) (fun _ hk => hk.2) (.slice Ao7 t317.length co7)) (fun _ hk => hk.2) (.slice Ao9 t320.length co9)) (fun _ hk => hk.1)⟩, ⟨by (with_reducible repeat (first | apply Kd.R_alloc | apply Kd.R_drewN | apply Kd.R_drew)); exact Kd.R_mono (Kd.R_far (p := ⟨gb324, 1, none⟩) (Kd.R_far (p := ⟨gb324, 0, none⟩) (Kd.R_types HO322.out BK324.out (by decide)) (fun _ hk => hk.2) (.slice Ao7 t317.length co7)) (fun _ hk => hk.2) (.slice Ao9 t320.length co9)) (fun _ hk => hk.1)⟩, ⟨by (with_reducible repeat (first | refine blk_drewN ?_ _ | refine blk_drew ?_ | refine blk_alloc ?_ _)); refine blk_put (cs := #[.slice Ao7 t317.length co7, .slice none 0 0]) ?_ 1 _ rfl; (with_reducible repeat (first | refine blk_drewN ?_ _ | refine blk_drew ?_ | refine blk_alloc ?_ _)); refine blk_put (cs := #[.slice none 0 0, .slice none 0 0]) ?_ 0 _ rfl; (with_reducible repeat (first | refine blk_drewN ?_ _ | refine blk_drew ?_ | refine blk_alloc ?_ _)); exact BK324.out⟩, ⟨by repeat (first | (with_reducible first | exact HB.out | apply below_alloc | apply pw_below_drewN | apply below_drew1 | refine below_set ?_ GE324.out) | exact HB.out)⟩⟩
  case rest =>
    clear HC4
    try clear c1
    try clear p2
    try clear c3
    try clear c10
    try clear c11
    try clear hcz8_0
    try clear hcz8_1
    try clear hfz8_0
    try clear hfz8_1
    obtain ⟨kq, x23_3, rfl, HA, HJ3, HO_325000, HO_325001, BK324, HB⟩ := hcut
    cases kq with
    | zero => exact absurd HA.out (by simp [spec_MakeOver.j0])
    | succ kj3 =>
      have H := HA.out
      clear HA
      simp only [spec_MakeOver.j0] at H
      by_cases c12 : x23_3 = true
      · subst c12
        have H1 : (some ((⟨#[]⟩ : ByteArray), false)) = some (r1, r2) := by rw [if_pos rfl] at H; exact H
        clear H
        have H := H1
        clear H1
        simp only [Option.some.injEq, Prod.mk.injEq] at H
        obtain ⟨rfl, rfl⟩ := H
        go_wp2
        go_ret2
        exact ⟨by first | rfl | (simp [errW_none, errW_some] <;> rfl) | (simp [*, errW_none, errW_some] <;> rfl) | (simp [errW_none, errW_some]; exact ⟨rfl, rfl⟩), by repeat (first | (with_reducible first | exact HB.out | apply below_alloc | apply pw_below_drewN | apply below_drew1 | refine below_set ?_ GE324.out) | exact HB.out)⟩
      · replace c12 := Bool.eq_false_iff.mpr c12
        subst c12
        have H1 : (spec_MakeOver.l0 kj3 a1 (([] : List Bool)) 0 t317 t320) = some (r1, r2) := by rw [if_neg (show ¬ (false = true) by decide)] at H; exact H
        clear H
        have H := H1
        clear H1
        obtain ⟨y326, hy326⟩ : ∃ y_ : List Bool, y_ = (([] : List Bool)) := ⟨_, rfl⟩
        replace H : (spec_MakeOver.l0 kj3 a1 y326 0 t317 t320) = some (r1, r2) := by first | (rw [hy326]; with_reducible exact H) | (have H2_ := (Option.bind_some _ _).symm.trans H; rw [hy326]; with_reducible exact H2_) | (have H2_ := (Option.bind_some _ _).symm.trans H; with_reducible exact H2_) | with_reducible exact H | (rw [hy326]; exact H) | exact H
        have Ny326 := Aside0.mk hy326
        clear hy326
        have H' := Aside0.mk H
        clear H
        go_wp2_with (first | ((with_reducible refine gate_dst (N := 24) rfl ?_); refine Kd.R_lit Kd.bool _ 4 ?hg (N := 24) ?hd (xs := ([] : List Bool)) (inner := []) (ok := fun _ => True) (okp := fun _ => True) ?hr ?hp (fun _ hk => hk) trivial (Below.refl _ _) (Nat.le_refl _) (by simp) ?_; (case hd => rfl); (case hg => rfl); (case hr => first | (go_simp; done) | (go_simp; rfl)); (case hp => exact (Reps.none _ _)); intro v327 w13 ho14 hb hg_ hnew_; clear hg_ hnew_; (first | rw [← Ny326.out] at ho14 | (simp only [Int.reduceToNat] at ho14; rw [← Ny326.out] at ho14)); have n0_ := Aside0.mk (Kd.R_elder' (by (with_reducible repeat (first | apply Kd.R_alloc | apply Kd.R_drewN | apply Kd.R_drew)); exact HO_325000.out) (Kd.R_base ho14) hb); have n1_ := Aside0.mk (Kd.R_elder' (by (with_reducible repeat (first | apply Kd.R_alloc | apply Kd.R_drewN | apply Kd.R_drew)); exact HO_325001.out) (Kd.R_base ho14) hb); have n2_ := Aside0.mk (Kd.R_lower (Kd.R_new' (Kd.R_new' ho14 (Kd.R_lt (by (with_reducible repeat (first | apply Kd.R_alloc | apply Kd.R_drewN | apply Kd.R_drew)); exact HO_325000.out))) (Kd.R_lt (by (with_reducible repeat (first | apply Kd.R_alloc | apply Kd.R_drewN | apply Kd.R_drew)); exact HO_325001.out))) (below_size (by repeat (first | (with_reducible first | exact HB.out | apply below_alloc | apply pw_below_drewN | apply below_drew1 | refine below_set ?_ GE324.out) | exact HB.out)))); have n3_ := Aside0.mk (blk_below (g := gb324) (o := .cells #[.slice Ao7 t317.length co7, .slice Ao9 t320.length co9] 48 (0, 0)) (by (with_reducible repeat (first | refine blk_drewN ?_ _ | refine blk_drew ?_ | refine blk_alloc ?_ _)); exact BK324.out) hb); have n4_ := Aside0.mk (below_step (by repeat (first | (with_reducible first | exact HB.out | apply below_alloc | apply pw_below_drewN | apply below_drew1 | refine below_set ?_ GE324.out) | exact HB.out)) hb); clear HO_325000; clear HO_325001; clear BK324; clear HB; have HO_325000 := n0_; have HO_325001 := n1_; have HO328 := n2_; have BK324 := n3_; have HB := n4_; clear n0_ n1_ n2_ n3_ n4_; clear hb ho14))
        go_loopg [8, 9] kj3 (fun kq v8 v9 w' => ∃ (x8_2 : List Bool) (x9_2 : Int), v9 = .int .i64 x9_2 ∧ Aside0 (spec_MakeOver.l0 kq a1 x8_2 x9_2 t317 t320 = some (r1, r2)) ∧ Aside0 (kq ≤ kj3) ∧ Aside0 (Kd.R Kd.bool 4 w' w.heap.size (fun k_ => some k_ ≠ ((.slice Ao7 t317.length co7) : Value).ownBlock ∧ some k_ ≠ ((.slice Ao9 t320.length co9) : Value).ownBlock) v8 x8_2) ∧ Aside0 (Kd.R Kd.bool 4 w' w.heap.size (fun k_ => some k_ ≠ (v8 : Value).ownBlock ∧ some k_ ≠ ((.slice Ao9 t320.length co9) : Value).ownBlock) (.slice Ao7 t317.length co7) t317) ∧ Aside0 (Kd.R Kd.bool 4 w' w.heap.size (fun k_ => some k_ ≠ (v8 : Value).ownBlock ∧ some k_ ≠ ((.slice Ao7 t317.length co7) : Value).ownBlock) (.slice Ao9 t320.length co9) t320) ∧ Aside0 (w'.heap[gb324]? = some (.cells #[(.slice Ao7 t317.length co7), (.slice Ao9 t320.length co9)] 48 (0, 0))) ∧ Aside0 (Below w.heap.size w w'))
        case atStart => exact ⟨(y326), (0), (by first | rfl | (simp; done) | (simp [*]; done) | (simp [Int.tmod_eq_emod_of_nonneg]; done)), H', ⟨Nat.le_refl _⟩, ⟨by (with_reducible repeat (first | apply Kd.R_alloc | apply Kd.R_drewN | apply Kd.R_drew)); exact Kd.R_mono HO328.out (fun _ hk => ⟨hk.1.2, hk.2⟩)⟩, ⟨by (with_reducible repeat (first | apply Kd.R_alloc | apply Kd.R_drewN | apply Kd.R_drew)); exact Kd.R_mono HO_325000.out (fun _ hk => ⟨hk.2, hk.1⟩)⟩, ⟨by (with_reducible repeat (first | apply Kd.R_alloc | apply Kd.R_drewN | apply Kd.R_drew)); exact Kd.R_mono HO_325001.out (fun _ hk => ⟨hk.2, hk.1⟩)⟩, ⟨by (with_reducible repeat (first | refine blk_drewN ?_ _ | refine blk_drew ?_ | refine blk_alloc ?_ _)); exact BK324.out⟩, ⟨by repeat (first | (with_reducible first | exact HB.out | apply below_alloc | apply pw_below_drewN | apply below_drew1 | refine below_set ?_ GE324.out) | exact HB.out)⟩⟩
        case round =>
          clear H'
          try clear c1
          try clear p2
          try clear c3
          try clear c10
          try clear c11
          try clear c12
          try clear hcz8_0
          try clear hcz8_1
          try clear hfz8_0
          try clear hfz8_1
          try clear p2
          obtain ⟨x8_2, x9_2, rfl, HA, HK2, HO_8, HO_325000, HO_325001, BK324, HB⟩ := hrel
          cases gk with
          | zero => exact absurd HA.out (by simp [spec_MakeOver.l0])
          | succ k2 =>
            have H := HA.out
            clear HA
            simp only [spec_MakeOver.l0] at H
            by_cases c15 : x9_2 < (wrap64 ((t317.length : Int) + (t320.length : Int)))
            · rw [if_pos c15] at H
              have c15b0 : decide (x9_2 < (wrap64 ((t317.length : Int) + (t320.length : Int)))) = true := decide_eq_true c15
              clear c15
              have H' := Aside0.mk H
              clear H
              have hcz16_0 : wr.cell? ⟨gb324, 0, none⟩ = some (.slice Ao7 t317.length co7) := (blk_cell BK324.out 0).trans rfl
              have hcz16_1 : wr.cell? ⟨gb324, 1, none⟩ = some (.slice Ao9 t320.length co9) := (blk_cell BK324.out 1).trans rfl
              have hfz16_0 := blk_frozen BK324.out 0
              have hfz16_1 := blk_frozen BK324.out 1
              go_wp2
              go_loopg [10, 11] k2 (fun kq v10 v11 w' => ∃ (x10_3 : Bool) (x11_3 : Int), v10 = .bool x10_3 ∧ v11 = .int .i64 x11_3 ∧ Aside0 (spec_MakeOver.l1 kq a1 x8_2 x9_2 x10_3 x11_3 t317 t320 = some (r1, r2)) ∧ Aside0 (kq ≤ k2) ∧ Aside0 (Kd.R Kd.bool 4 w' w.heap.size (fun k_ => some k_ ≠ ((.slice Ao7 t317.length co7) : Value).ownBlock ∧ some k_ ≠ ((.slice Ao9 t320.length co9) : Value).ownBlock) u8 x8_2) ∧ Aside0 (Kd.R Kd.bool 4 w' w.heap.size (fun k_ => some k_ ≠ (u8 : Value).ownBlock ∧ some k_ ≠ ((.slice Ao9 t320.length co9) : Value).ownBlock) (.slice Ao7 t317.length co7) t317) ∧ Aside0 (Kd.R Kd.bool 4 w' w.heap.size (fun k_ => some k_ ≠ (u8 : Value).ownBlock ∧ some k_ ≠ ((.slice Ao7 t317.length co7) : Value).ownBlock) (.slice Ao9 t320.length co9) t320) ∧ Aside0 (w'.heap[gb324]? = some (.cells #[(.slice Ao7 t317.length co7), (.slice Ao9 t320.length co9)] 48 (0, 0))) ∧ Aside0 (Below w.heap.size w w'))
              case atStart => exact ⟨(false), (0), (by first | rfl | (simp; done) | (simp [*]; done) | (simp [Int.tmod_eq_emod_of_nonneg]; done)), (by first | rfl | (simp; done) | (simp [*]; done) | (simp [Int.tmod_eq_emod_of_nonneg]; done)), H', ⟨Nat.le_refl _⟩, ⟨by (with_reducible repeat (first | apply Kd.R_alloc | apply Kd.R_drewN | apply Kd.R_drew)); exact HO_8.out⟩, ⟨by (with_reducible repeat (first | apply Kd.R_alloc | apply Kd.R_drewN | apply Kd.R_drew)); exact HO_325000.out⟩, ⟨by (with_reducible repeat (first | apply Kd.R_alloc | apply Kd.R_drewN | apply Kd.R_drew)); exact HO_325001.out⟩, ⟨by (with_reducible repeat (first | refine blk_drewN ?_ _ | refine blk_drew ?_ | refine blk_alloc ?_ _)); exact BK324.out⟩, ⟨by repeat (first | (with_reducible first | exact HB.out | apply below_alloc | apply pw_below_drewN | apply below_drew1 | refine below_set ?_ GE324.out) | exact HB.out)⟩⟩
              case round =>
                clear H'
                try clear c1
                try clear p2
                try clear c3
                try clear p6
                try clear c10
                try clear c11
                try clear c12
                try clear c15
                try clear c15b0
                try clear hcz16_0
                try clear hcz16_1
                try clear hcz8_0
                try clear hcz8_1
                try clear hfz16_0
                try clear hfz16_1
                try clear hfz8_0
                try clear hfz8_1
                try clear p2
                obtain ⟨x10_3, x11_3, rfl, rfl, HA, HK3, HO_8, HO_325000, HO_325001, BK324, HB⟩ := hrel
                cases gk with
                | zero => exact absurd HA.out (by simp [spec_MakeOver.l1])
                | succ k3 =>
                  have H := HA.out
                  clear HA
                  simp only [spec_MakeOver.l1] at H
                  by_cases c17 : x11_3 < a1
                  · rw [if_pos c17] at H
                    have c17b0 : decide (x11_3 < a1) = true := decide_eq_true c17
                    clear c17
                    by_cases c18 : x10_3 = true
                    · subst c18
                      have H1 : (spec_MakeOver.l1 k3 a1 x8_2 x9_2 true (wrap64 (x11_3 + 1)) t317 t320) = some (r1, r2) := by rw [if_pos rfl] at H; exact H
                      clear H
                      have H := H1
                      clear H1
                      have H' := Aside0.mk H
                      clear H
                      go_wp2
                      go_roundg k3
                      case measure => have := HJ3.out; have := HK2.out; have := HK3.out; omega
                      case rel => exact ⟨(true), (wrap64 (x11_3 + 1)), (by first | rfl | (simp; done) | (simp [*]; done) | (simp [Int.tmod_eq_emod_of_nonneg]; done)), (by first | rfl | (simp; done) | (simp [*]; done) | (simp [Int.tmod_eq_emod_of_nonneg]; done)), H', ⟨by have := HJ3.out; have := HK2.out; have := HK3.out; omega⟩, ⟨by (with_reducible repeat (first | apply Kd.R_alloc | apply Kd.R_drewN | apply Kd.R_drew)); exact HO_8.out⟩, ⟨by (with_reducible repeat (first | apply Kd.R_alloc | apply Kd.R_drewN | apply Kd.R_drew)); exact HO_325000.out⟩, ⟨by (with_reducible repeat (first | apply Kd.R_alloc | apply Kd.R_drewN | apply Kd.R_drew)); exact HO_325001.out⟩, ⟨by (with_reducible repeat (first | refine blk_drewN ?_ _ | refine blk_drew ?_ | refine blk_alloc ?_ _)); exact BK324.out⟩, ⟨by repeat (first | (with_reducible first | exact HB.out | apply below_alloc | apply pw_below_drewN | apply below_drew1 | refine below_set ?_ GE324.out) | exact HB.out)⟩⟩
                    · replace c18 := Bool.eq_false_iff.mpr c18
                      subst c18
                      have H1 : ((spec_l1Has.f t317 t320 (wrap64 ((wrap64 (a1 * x9_2)) + x11_3))).bind fun t331 => (spec_MakeOver.l1 k3 a1 x8_2 x9_2 t331 (wrap64 (x11_3 + 1)) t317 t320)) = some (r1, r2) := by rw [if_neg (show ¬ (false = true) by decide)] at H; exact H
                      clear H
                      have H := H1
                      clear H1
                      replace H := Option.bind_eq_some_iff.mp H
                      obtain ⟨t331, A190, H⟩ := H
                      replace H : (spec_MakeOver.l1 k3 a1 x8_2 x9_2 t331 (wrap64 (x11_3 + 1)) t317 t320) = some (r1, r2) := H
                      have A19 := Aside0.mk A190
                      clear A190
                      have H' := Aside0.mk H
                      clear H
                      have hcz20_0 : wr.cell? ⟨gb324, 0, none⟩ = some (.slice Ao7 t317.length co7) := (blk_cell BK324.out 0).trans rfl
                      have hcz20_1 : wr.cell? ⟨gb324, 1, none⟩ = some (.slice Ao9 t320.length co9) := (blk_cell BK324.out 1).trans rfl
                      have hfz20_0 := blk_frozen BK324.out 0
                      have hfz20_1 := blk_frozen BK324.out 1
                      go_wp2_with (first | (go_at_call 40; (with_reducible refine (spec_l1Has.calls _ _ t317 _ _ t320 (wrap64 ((wrap64 (a1 * x9_2)) + x11_3)) t331 _ ?side1 ?side2 ?side3 ?side4 A19.out).mono ?_); (case side1 => repeat (first | exact (Kd.R_reads' HO_325000.out).2.2 | (with_reducible refine Kd.C_alloc ?_ _) | (with_reducible refine Kd.C_drewN ?_ _) | (with_reducible refine Kd.C_drew ?_))); (case side2 => exact (Kd.R_reads' HO_325000.out).2.1); (case side3 => repeat (first | exact (Kd.R_reads' HO_325001.out).2.2 | (with_reducible refine Kd.C_alloc ?_ _) | (with_reducible refine Kd.C_drewN ?_ _) | (with_reducible refine Kd.C_drew ?_))); (case side4 => exact (Kd.R_reads' HO_325001.out).2.1); rintro e w21 ⟨rfl, hb⟩; have n0_ := Aside0.mk (Kd.R_below (by (with_reducible repeat (first | apply Kd.R_alloc | apply Kd.R_drewN | apply Kd.R_drew)); exact HO_8.out) hb); have n1_ := Aside0.mk (Kd.R_below (by (with_reducible repeat (first | apply Kd.R_alloc | apply Kd.R_drewN | apply Kd.R_drew)); exact HO_325000.out) hb); have n2_ := Aside0.mk (Kd.R_below (by (with_reducible repeat (first | apply Kd.R_alloc | apply Kd.R_drewN | apply Kd.R_drew)); exact HO_325001.out) hb); have n3_ := Aside0.mk (blk_below (g := gb324) (o := .cells #[.slice Ao7 t317.length co7, .slice Ao9 t320.length co9] 48 (0, 0)) (by (with_reducible repeat (first | refine blk_drewN ?_ _ | refine blk_drew ?_ | refine blk_alloc ?_ _)); exact BK324.out) hb); have n4_ := Aside0.mk (below_step (by repeat (first | (with_reducible first | exact HB.out | apply below_alloc | apply pw_below_drewN | apply below_drew1 | refine below_set ?_ GE324.out) | exact HB.out)) hb); clear HO_8; clear HO_325000; clear HO_325001; clear BK324; clear HB; have HO_8 := n0_; have HO_325000 := n1_; have HO_325001 := n2_; have BK324 := n3_; have HB := n4_; clear n0_ n1_ n2_ n3_ n4_; (try clear hb); (try clear hb2); (try clear hk); (try clear hi)))
                      go_roundg k3
                      case measure => have := HJ3.out; have := HK2.out; have := HK3.out; omega
                      case rel => exact ⟨(t331), (wrap64 (x11_3 + 1)), (by first | rfl | (simp; done) | (simp [*]; done) | (simp [Int.tmod_eq_emod_of_nonneg]; done)), (by first | rfl | (simp; done) | (simp [*]; done) | (simp [Int.tmod_eq_emod_of_nonneg]; done)), H', ⟨by have := HJ3.out; have := HK2.out; have := HK3.out; omega⟩, ⟨by (with_reducible repeat (first | apply Kd.R_alloc | apply Kd.R_drewN | apply Kd.R_drew)); exact HO_8.out⟩, ⟨by (with_reducible repeat (first | apply Kd.R_alloc | apply Kd.R_drewN | apply Kd.R_drew)); exact HO_325000.out⟩, ⟨by (with_reducible repeat (first | apply Kd.R_alloc | apply Kd.R_drewN | apply Kd.R_drew)); exact HO_325001.out⟩, ⟨by (with_reducible repeat (first | refine blk_drewN ?_ _ | refine blk_drew ?_ | refine blk_alloc ?_ _)); exact BK324.out⟩, ⟨by repeat (first | (with_reducible first | exact HB.out | apply below_alloc | apply pw_below_drewN | apply below_drew1 | refine below_set ?_ GE324.out) | exact HB.out)⟩⟩
                  · rw [if_neg c17] at H
                    have c17b0 : decide (x11_3 < a1) = false := decide_eq_false c17
                    clear c17
                    by_cases c22 : x8_2.length < 140737488355328
                    · rw [if_pos c22] at H
                      have LMc22 := Aside0.mk c22
                      clear c22
                      obtain ⟨y332, hy332⟩ : ∃ y_ : List Bool, y_ = (x8_2 ++ [x10_3]) := ⟨_, rfl⟩
                      replace H : (spec_MakeOver.l0 k3 a1 y332 (wrap64 (x9_2 + 1)) t317 t320) = some (r1, r2) := by first | (rw [hy332]; with_reducible exact H) | (have H2_ := (Option.bind_some _ _).symm.trans H; rw [hy332]; with_reducible exact H2_) | (have H2_ := (Option.bind_some _ _).symm.trans H; with_reducible exact H2_) | with_reducible exact H | (rw [hy332]; exact H) | exact H
                      have Ny332 := Aside0.mk hy332
                      clear hy332
                      have H' := Aside0.mk H
                      clear H
                      go_wp2_with (first | ((with_reducible refine gate_builtin (b := .append) (xs := #[.tmp 51, .tmp 53]) rfl ?_); at_builtin; refine Kd.R_append Kd.bool (w0 := w) w.heap.size rfl (.tmp 51) (.tmp 53) 42 4 (.bool false) 1 rfl Try.underlying42 info4 rfl (by decide) (by omega) u8 x8_2 x10_3 [.bool x10_3] (fun k_ => some k_ ≠ (.slice Ao7 t317.length co7 : Value).ownBlock ∧ some k_ ≠ (.slice Ao9 t320.length co9 : Value).ownBlock) (fun _ => False) rfl rfl ?aP (fun _ hk => hk.elim) ?aF ?aO ?aB ?aS ?aL ?_; (case aP => exact rfl); (case aB => exact (by repeat (first | (with_reducible first | exact HB.out | apply below_alloc | apply pw_below_drewN | apply below_drew1 | refine below_set ?_ GE324.out) | exact HB.out))); (case aF => exact (fun k_ hk => ⟨Kd.fresh' (Kd.R_lt (by (with_reducible repeat (first | apply Kd.R_alloc | apply Kd.R_drewN | apply Kd.R_drew)); exact HO_325000.out)) k_ hk, Kd.fresh' (Kd.R_lt (by (with_reducible repeat (first | apply Kd.R_alloc | apply Kd.R_drewN | apply Kd.R_drew)); exact HO_325001.out)) k_ hk⟩)); (case aO => exact (by (with_reducible repeat (first | apply Kd.R_alloc | apply Kd.R_drewN | apply Kd.R_drew)); exact HO_8.out)); (case aS => exact (below_size (by repeat (first | (with_reducible first | exact HB.out | apply below_alloc | apply pw_below_drewN | apply below_drew1 | refine below_set ?_ GE324.out) | exact HB.out)))); (case aL => have := LMc22.out; omega); intro v333 w23 ho hb hg hat; rw [← Ny332.out] at ho; have n0_ := Aside0.mk (Kd.R_after (ok := (fun k_ => some k_ ≠ (.slice Ao9 t320.length co9 : Value).ownBlock)) (by (with_reducible repeat (first | apply Kd.R_alloc | apply Kd.R_drewN | apply Kd.R_drew)); exact Kd.R_mono HO_325000.out (fun _ hk => ⟨hk.2, hk.1⟩)) hg hat); have n1_ := Aside0.mk (Kd.R_after (ok := (fun k_ => some k_ ≠ (.slice Ao7 t317.length co7 : Value).ownBlock)) (by (with_reducible repeat (first | apply Kd.R_alloc | apply Kd.R_drewN | apply Kd.R_drew)); exact Kd.R_mono HO_325001.out (fun _ hk => ⟨hk.2, hk.1⟩)) hg hat); have n2_ := Aside0.mk (blk_grown (g := gb324) (o := .cells #[.slice Ao7 t317.length co7, .slice Ao9 t320.length co9] 48 (0, 0)) (by (with_reducible repeat (first | refine blk_drewN ?_ _ | refine blk_drew ?_ | refine blk_alloc ?_ _)); exact BK324.out) hg (Kd.R_ne HO_8.out BK324.out (by decide))); have n3_ := Aside0.mk (hb); have n4_ := Aside0.mk (ho); clear HO_325000; clear HO_325001; clear BK324; clear HB; clear HO_8; have HO_325000 := n0_; have HO_325001 := n1_; have BK324 := n2_; have HB := n3_; have HO334 := n4_; clear n0_ n1_ n2_ n3_ n4_; clear ho hb hg hat))
                      go_roundg k3
                      case measure => have := HJ3.out; have := HK2.out; have := HK3.out; omega
                      case rel => exact ⟨(y332), (wrap64 (x9_2 + 1)), (by first | rfl | (simp; done) | (simp [*]; done) | (simp [Int.tmod_eq_emod_of_nonneg]; done)), H', ⟨by have := HJ3.out; have := HK2.out; have := HK3.out; omega⟩, ⟨by (with_reducible repeat (first | apply Kd.R_alloc | apply Kd.R_drewN | apply Kd.R_drew)); exact HO334.out⟩, ⟨by (with_reducible repeat (first | apply Kd.R_alloc | apply Kd.R_drewN | apply Kd.R_drew)); exact Kd.R_mono HO_325000.out (fun _ hk => ⟨hk.2, hk.1⟩)⟩, ⟨by (with_reducible repeat (first | apply Kd.R_alloc | apply Kd.R_drewN | apply Kd.R_drew)); exact Kd.R_mono HO_325001.out (fun _ hk => ⟨hk.2, hk.1⟩)⟩, ⟨by (with_reducible repeat (first | refine blk_drewN ?_ _ | refine blk_drew ?_ | refine blk_alloc ?_ _)); exact BK324.out⟩, ⟨by repeat (first | (with_reducible first | exact HB.out | apply below_alloc | apply pw_below_drewN | apply below_drew1 | refine below_set ?_ GE324.out) | exact HB.out)⟩⟩
                    · rw [if_neg c22] at H
                      exact absurd H (by simp)
            · rw [if_neg c15] at H
              have c15b0 : decide (x9_2 < (wrap64 ((t317.length : Int) + (t320.length : Int)))) = false := decide_eq_false c15
              clear c15
              replace H := Option.bind_eq_some_iff.mp H
              obtain ⟨⟨t329, t330⟩, A240, H⟩ := H
              replace H : (some (t329, t330)) = some (r1, r2) := H
              have A24 := Aside0.mk A240
              clear A240
              simp only [Option.some.injEq, Prod.mk.injEq] at H
              obtain ⟨rfl, rfl⟩ := H
              have hcz25_0 : wr.cell? ⟨gb324, 0, none⟩ = some (.slice Ao7 t317.length co7) := (blk_cell BK324.out 0).trans rfl
              have hcz25_1 : wr.cell? ⟨gb324, 1, none⟩ = some (.slice Ao9 t320.length co9) := (blk_cell BK324.out 1).trans rfl
              have hfz25_0 := blk_frozen BK324.out 0
              have hfz25_1 := blk_frozen BK324.out 1
              obtain ⟨Ao26, co26, eo26⟩ := Kd.R_slice HO_8.out
              subst eo26
              go_wp2_with (first | ((with_reducible refine gate_callee (f := 41) rfl ?_); refine goesL_ (some 59) rfl rfl Try.func41 (by kernel_rfl) rfl #[.slice Ao26 x8_2.length co26, .int .i64 (t317.length : Int)] rfl (by (try simp only [List.map_toArray, List.map_cons, List.map_nil]); first | done | rfl | (simp only [List.length_drop, List.length_take]; rfl)) ?_; (with_reducible refine (spec_l2Fill.calls k2 _ _ x8_2 (t317.length : Int) t329 t330 _ ?side1 ?side2 A24.out).mono ?_); (case side1 => repeat (first | exact (Kd.R_reads' HO_8.out).2.2 | (with_reducible refine Kd.C_alloc ?_ _) | (with_reducible refine Kd.C_drewN ?_ _) | (with_reducible refine Kd.C_drew ?_))); (case side2 => exact (Kd.R_reads' HO_8.out).2.1); rintro e w27 ⟨rfl, hb⟩; refine ⟨_, rfl, ?_⟩; have n0_ := Aside0.mk (Kd.R_below (by (with_reducible repeat (first | apply Kd.R_alloc | apply Kd.R_drewN | apply Kd.R_drew)); exact HO_8.out) hb); have n1_ := Aside0.mk (Kd.R_below (by (with_reducible repeat (first | apply Kd.R_alloc | apply Kd.R_drewN | apply Kd.R_drew)); exact HO_325000.out) hb); have n2_ := Aside0.mk (Kd.R_below (by (with_reducible repeat (first | apply Kd.R_alloc | apply Kd.R_drewN | apply Kd.R_drew)); exact HO_325001.out) hb); have n3_ := Aside0.mk (blk_below (g := gb324) (o := .cells #[.slice Ao7 t317.length co7, .slice Ao9 t320.length co9] 48 (0, 0)) (by (with_reducible repeat (first | refine blk_drewN ?_ _ | refine blk_drew ?_ | refine blk_alloc ?_ _)); exact BK324.out) hb); have n4_ := Aside0.mk (below_step (by repeat (first | (with_reducible first | exact HB.out | apply below_alloc | apply pw_below_drewN | apply below_drew1 | refine below_set ?_ GE324.out) | exact HB.out)) hb); clear HO_8; clear HO_325000; clear HO_325001; clear BK324; clear HB; have HO_8 := n0_; have HO_325000 := n1_; have HO_325001 := n2_; have BK324 := n3_; have HB := n4_; clear n0_ n1_ n2_ n3_ n4_; (try clear hb); (try clear hb2); (try clear hk); (try clear hi)))
              go_ret2
              exact ⟨by first | rfl | (simp [errW_none, errW_some] <;> rfl) | (simp [*, errW_none, errW_some] <;> rfl) | (simp [errW_none, errW_some]; exact ⟨rfl, rfl⟩), by repeat (first | (with_reducible first | exact HB.out | apply below_alloc | apply pw_below_drewN | apply below_drew1 | refine below_set ?_ GE324.out) | exact HB.out)⟩

end Go.Proofs.Ytflfabdfkfigcaa.P

namespace Go.Proofs.Ytflfabdfkfigcaa.P
open Go.RowKit Go.Proofs.YtflfabdfkfigcaaW.PrintWords Go.Proofs.YtflfabdfkfigcaaW.PrintLast Go.Proofs.YtflfabdfkfigcaaW.PrintMore
attribute [local go_sem] max2_int min2_int max_two min_two max_three min_three max_four min_four   -- for this text's walks alone
set_option linter.unusedVariables false
set_option linter.unusedSimpArgs false

/-! ### laws_FnMakeOver: function 3 -/
mutual
noncomputable def laws_FnMakeOver.j0 : Nat → ByteArray → Int → ByteArray → Bool → Bool → Option (Bool)
  | 0, _, _, _, _, _ => none
  | k + 1, x3, x4, x5, x6, x9 => if x9 = true then (laws_FnMakeOver.j1 k x3 x4 x5 x9 (!x6)) else (laws_FnMakeOver.j1 k x3 x4 x5 x9 true)
noncomputable def laws_FnMakeOver.j1 : Nat → ByteArray → Int → ByteArray → Bool → Bool → Option (Bool)
  | 0, _, _, _, _, _ => none
  | k + 1, x3, x4, x5, x9, x46 => if x46 = true then (some x9) else (laws_FnMakeOver.l0 k x3 x4 x5 0)
noncomputable def laws_FnMakeOver.l0 : Nat → ByteArray → Int → ByteArray → Int → Option (Bool)
  | 0, _, _, _, _ => none
  | k + 1, x3, x4, x5, x10 => if x10 ≤ 60 then (laws_FnMakeOver.l1 k x3 x4 x5 x10 false 0) else (some true)
noncomputable def laws_FnMakeOver.l1 : Nat → ByteArray → Int → ByteArray → Int → Bool → Int → Option (Bool)
  | 0, _, _, _, _, _, _ => none
  | k + 1, x3, x4, x5, x10, x11, x12 => if x12 < x4 then (if x11 = true then (laws_FnMakeOver.l1 k x3 x4 x5 x10 true (wrap64 (x12 + 1))) else ((impl_SetHas.f k x3 (wrap64 ((wrap64 (x4 * x10)) + x12))).bind fun t350 => (laws_FnMakeOver.l1 k x3 x4 x5 x10 t350 (wrap64 (x12 + 1))))) else ((impl_SetHas.f k x5 x10).bind fun t351 => (if (t351 != x11) = true then (some false) else (laws_FnMakeOver.l0 k x3 x4 x5 (wrap64 (x10 + 1)))))
end
noncomputable def laws_FnMakeOver.f (k : Nat) (l0 : List Int) : Option (Bool) := if (l0.length : Int) > 1048576 then (some true) else ((spec_DrawMakeOver.f k l0).bind fun bt344 => ((impl_MakeOver.f bt344.1 bt344.2).bind fun bt346 => ((spec_MakeOver.f k bt344.1 bt344.2).bind fun bt348 => (if bt346.1.toList = bt348.1.toList then (laws_FnMakeOver.j0 k bt344.1 bt344.2 bt346.1 bt346.2 (bt346.2 == bt348.2)) else (laws_FnMakeOver.j0 k bt344.1 bt344.2 bt346.1 bt346.2 false)))))
theorem laws_FnMakeOver.mono_l : ∀ k, (∀ y0 y1 y2 y3 y4, LeO (laws_FnMakeOver.j0 k y0 y1 y2 y3 y4) (laws_FnMakeOver.j0 (k + 1) y0 y1 y2 y3 y4)) ∧ (∀ y0 y1 y2 y3 y4, LeO (laws_FnMakeOver.j1 k y0 y1 y2 y3 y4) (laws_FnMakeOver.j1 (k + 1) y0 y1 y2 y3 y4)) ∧ (∀ y0 y1 y2 y3, LeO (laws_FnMakeOver.l0 k y0 y1 y2 y3) (laws_FnMakeOver.l0 (k + 1) y0 y1 y2 y3)) ∧ (∀ y0 y1 y2 y3 y4 y5, LeO (laws_FnMakeOver.l1 k y0 y1 y2 y3 y4 y5) (laws_FnMakeOver.l1 (k + 1) y0 y1 y2 y3 y4 y5))
  | 0 => ⟨fun _ _ _ _ _ r h => by simp [laws_FnMakeOver.j0] at h, fun _ _ _ _ _ r h => by simp [laws_FnMakeOver.j1] at h, fun _ _ _ _ r h => by simp [laws_FnMakeOver.l0] at h, fun _ _ _ _ _ _ r h => by simp [laws_FnMakeOver.l1] at h⟩
  | k + 1 => by
    obtain ⟨ih0, ih1, ih2, ih3⟩ := laws_FnMakeOver.mono_l k
    refine ⟨?_, ?_, ?_, ?_⟩
    · intro y0 y1 y2 y3 y4
      unfold laws_FnMakeOver.j0
      repeat' first
      | (with_reducible exact ih0 _ _ _ _ _)
      | (with_reducible exact ih1 _ _ _ _ _)
      | (with_reducible exact ih2 _ _ _ _)
      | (with_reducible exact ih3 _ _ _ _ _ _)
      | (with_reducible exact impl_SetHas.mono _ _ _)
      | (with_reducible exact spec_DrawMakeOver.mono _ _)
      | (with_reducible exact spec_MakeOver.mono _ _ _)
      | (with_reducible exact LeO.refl _)
      | (with_reducible exact LeO.none _)
      | (with_reducible refine LeO.ite ?_ ?_)
      | (with_reducible refine LeO.bind ?_ (fun _ => ?_))
      | exact ih0 _ _ _ _ _
      | exact ih1 _ _ _ _ _
      | exact ih2 _ _ _ _
      | exact ih3 _ _ _ _ _ _
      | exact impl_SetHas.mono _ _ _
      | exact spec_DrawMakeOver.mono _ _
      | exact spec_MakeOver.mono _ _ _
      | exact LeO.none _
      | refine LeO.ite ?_ ?_
      | refine LeO.bind ?_ (fun _ => ?_)
    · intro y0 y1 y2 y3 y4
      unfold laws_FnMakeOver.j1
      repeat' first
      | (with_reducible exact ih0 _ _ _ _ _)
      | (with_reducible exact ih1 _ _ _ _ _)
      | (with_reducible exact ih2 _ _ _ _)
      | (with_reducible exact ih3 _ _ _ _ _ _)
      | (with_reducible exact impl_SetHas.mono _ _ _)
      | (with_reducible exact spec_DrawMakeOver.mono _ _)
      | (with_reducible exact spec_MakeOver.mono _ _ _)
      | (with_reducible exact LeO.refl _)
      | (with_reducible exact LeO.none _)
      | (with_reducible refine LeO.ite ?_ ?_)
      | (with_reducible refine LeO.bind ?_ (fun _ => ?_))
      | exact ih0 _ _ _ _ _
      | exact ih1 _ _ _ _ _
      | exact ih2 _ _ _ _
      | exact ih3 _ _ _ _ _ _
      | exact impl_SetHas.mono _ _ _
      | exact spec_DrawMakeOver.mono _ _
      | exact spec_MakeOver.mono _ _ _
      | exact LeO.none _
      | refine LeO.ite ?_ ?_
      | refine LeO.bind ?_ (fun _ => ?_)
    · intro y0 y1 y2 y3
      unfold laws_FnMakeOver.l0
      repeat' first
      | (with_reducible exact ih0 _ _ _ _ _)
      | (with_reducible exact ih1 _ _ _ _ _)
      | (with_reducible exact ih2 _ _ _ _)
      | (with_reducible exact ih3 _ _ _ _ _ _)
      | (with_reducible exact impl_SetHas.mono _ _ _)
      | (with_reducible exact spec_DrawMakeOver.mono _ _)
      | (with_reducible exact spec_MakeOver.mono _ _ _)
      | (with_reducible exact LeO.refl _)
      | (with_reducible exact LeO.none _)
      | (with_reducible refine LeO.ite ?_ ?_)
      | (with_reducible refine LeO.bind ?_ (fun _ => ?_))
      | exact ih0 _ _ _ _ _
      | exact ih1 _ _ _ _ _
      | exact ih2 _ _ _ _
      | exact ih3 _ _ _ _ _ _
      | exact impl_SetHas.mono _ _ _
      | exact spec_DrawMakeOver.mono _ _
      | exact spec_MakeOver.mono _ _ _
      | exact LeO.none _
      | refine LeO.ite ?_ ?_
      | refine LeO.bind ?_ (fun _ => ?_)
    · intro y0 y1 y2 y3 y4 y5
      unfold laws_FnMakeOver.l1
      repeat' first
      | (with_reducible exact ih0 _ _ _ _ _)
      | (with_reducible exact ih1 _ _ _ _ _)
      | (with_reducible exact ih2 _ _ _ _)
      | (with_reducible exact ih3 _ _ _ _ _ _)
      | (with_reducible exact impl_SetHas.mono _ _ _)
      | (with_reducible exact spec_DrawMakeOver.mono _ _)
      | (with_reducible exact spec_MakeOver.mono _ _ _)
      | (with_reducible exact LeO.refl _)
      | (with_reducible exact LeO.none _)
      | (with_reducible refine LeO.ite ?_ ?_)
      | (with_reducible refine LeO.bind ?_ (fun _ => ?_))
      | exact ih0 _ _ _ _ _
      | exact ih1 _ _ _ _ _
      | exact ih2 _ _ _ _
      | exact ih3 _ _ _ _ _ _
      | exact impl_SetHas.mono _ _ _
      | exact spec_DrawMakeOver.mono _ _
      | exact spec_MakeOver.mono _ _ _
      | exact LeO.none _
      | refine LeO.ite ?_ ?_
      | refine LeO.bind ?_ (fun _ => ?_)
theorem laws_FnMakeOver.mono : ∀ a0 k, LeO (laws_FnMakeOver.f k a0) (laws_FnMakeOver.f (k + 1) a0) := by
  intro a0 k
  obtain ⟨ih0, ih1, ih2, ih3⟩ := laws_FnMakeOver.mono_l k
  unfold laws_FnMakeOver.f
  repeat' first
      | (with_reducible exact ih0 _ _ _ _ _)
      | (with_reducible exact ih1 _ _ _ _ _)
      | (with_reducible exact ih2 _ _ _ _)
      | (with_reducible exact ih3 _ _ _ _ _ _)
      | (with_reducible exact impl_SetHas.mono _ _ _)
      | (with_reducible exact spec_DrawMakeOver.mono _ _)
      | (with_reducible exact spec_MakeOver.mono _ _ _)
      | (with_reducible exact LeO.refl _)
      | (with_reducible exact LeO.none _)
      | (with_reducible refine LeO.ite ?_ ?_)
      | (with_reducible refine LeO.bind ?_ (fun _ => ?_))
      | exact ih0 _ _ _ _ _
      | exact ih1 _ _ _ _ _
      | exact ih2 _ _ _ _
      | exact ih3 _ _ _ _ _ _
      | exact impl_SetHas.mono _ _ _
      | exact spec_DrawMakeOver.mono _ _
      | exact spec_MakeOver.mono _ _ _
      | exact LeO.none _
      | refine LeO.ite ?_ ?_
      | refine LeO.bind ?_ (fun _ => ?_)
set_option maxHeartbeats 8000000 in
set_option maxRecDepth 100000 in
theorem laws_FnMakeOver.calls (k : Nat) (A0 : Option Addr) (c0 : Nat) (l0 : List Int) (r : Bool) (w : World) (hr0 : Kd.C (Kd.int .u8) w A0 l0.length l0) (hc0 : l0.length ≤ c0) (h : laws_FnMakeOver.f k l0 = some r) :
    Calls Try.prog 3 #[.slice A0 l0.length c0] w fun e w' => e = .returned (.bool r) ∧ Below w.heap.size w w' := by
  have HR0 := Aside0.mk hr0
  have HC0 := Aside0.mk hc0
  clear hr0 hc0
  have HB := Aside0.mk (Below.refl w.heap.size w)
  have H : (if (l0.length : Int) > 1048576 then (some true) else ((spec_DrawMakeOver.f k l0).bind fun bt344 => ((impl_MakeOver.f bt344.1 bt344.2).bind fun bt346 => ((spec_MakeOver.f k bt344.1 bt344.2).bind fun bt348 => (if bt346.1.toList = bt348.1.toList then (laws_FnMakeOver.j0 k bt344.1 bt344.2 bt346.1 bt346.2 (bt346.2 == bt348.2)) else (laws_FnMakeOver.j0 k bt344.1 bt344.2 bt346.1 bt346.2 false)))))) = some r := h
  clear h
  by_cases c2 : (l0.length : Int) > 1048576
  · rw [if_pos c2] at H
    have c2b0 : decide (1048576 < (l0.length : Int)) = true := decide_eq_true c2
    have c2b1 : decide (1048576 < l0.length) = true := decide_eq_true (by omega)
    clear c2
    obtain rfl := Option.some.inj H
    go_enter Try.func3, Try.ntmps3
    go_wp2
    go_ret
    exact ⟨by first | rfl | (simp [errW_none, errW_some] <;> rfl) | (simp [*, errW_none, errW_some] <;> rfl) | (simp [errW_none, errW_some]; exact ⟨rfl, rfl⟩), by repeat (first | (with_reducible first | exact HB.out | apply below_alloc | apply pw_below_drewN | apply below_drew1) | exact HB.out)⟩
  · rw [if_neg c2] at H
    have c2b0 : decide (1048576 < (l0.length : Int)) = false := decide_eq_false c2
    have c2b1 : decide (1048576 < l0.length) = false := decide_eq_false (by omega)
    clear c2
    replace H := Option.bind_eq_some_iff.mp H
    obtain ⟨⟨t344, t345⟩, A30, H⟩ := H
    replace H : ((impl_MakeOver.f t344 t345).bind fun bt346 => ((spec_MakeOver.f k t344 t345).bind fun bt348 => (if bt346.1.toList = bt348.1.toList then (laws_FnMakeOver.j0 k t344 t345 bt346.1 bt346.2 (bt346.2 == bt348.2)) else (laws_FnMakeOver.j0 k t344 t345 bt346.1 bt346.2 false)))) = some r := H
    have A3 := Aside0.mk A30
    clear A30
    replace H := Option.bind_eq_some_iff.mp H
    obtain ⟨⟨t346, t347⟩, A40, H⟩ := H
    replace H : ((spec_MakeOver.f k t344 t345).bind fun bt348 => (if t346.toList = bt348.1.toList then (laws_FnMakeOver.j0 k t344 t345 t346 t347 (t347 == bt348.2)) else (laws_FnMakeOver.j0 k t344 t345 t346 t347 false))) = some r := H
    have A4 := Aside0.mk A40
    clear A40
    replace H := Option.bind_eq_some_iff.mp H
    obtain ⟨⟨t348, t349⟩, A50, H⟩ := H
    replace H : (if t346.toList = t348.toList then (laws_FnMakeOver.j0 k t344 t345 t346 t347 (t347 == t349)) else (laws_FnMakeOver.j0 k t344 t345 t346 t347 false)) = some r := H
    have A5 := Aside0.mk A50
    clear A50
    have HC6 := Aside0.mk H
    clear H
    go_enter Try.func3, Try.ntmps3
    go_upto_region 6 with (first | ((with_reducible refine gate_callee (f := 9) rfl ?_); refine goesL_ (some 18) rfl rfl Try.func9 (by kernel_rfl) rfl #[.slice A0 l0.length c0] rfl (by (try simp only [List.map_toArray, List.map_cons, List.map_nil]); first | done | rfl | (simp only [List.length_drop, List.length_take]; rfl)) ?_; (with_reducible refine (spec_DrawMakeOver.calls k _ _ l0 t344 t345 _ ?side1 ?side2 A3.out).mono ?_); (case side1 => repeat (first | exact HR0.out | (with_reducible refine Kd.C_alloc ?_ _) | (with_reducible refine Kd.C_drewN ?_ _) | (with_reducible refine Kd.C_drew ?_))); (case side2 => exact HC0.out); rintro e w7 ⟨rfl, hb⟩; refine ⟨_, rfl, ?_⟩; have n0_ := Aside0.mk (below_step (by repeat (first | (with_reducible first | exact HB.out | apply below_alloc | apply pw_below_drewN | apply below_drew1) | exact HB.out)) hb); clear HB; have HB := n0_; clear n0_; (try clear hb); (try clear hb2); (try clear hk); (try clear hi)) | ((with_reducible refine gate_callee (f := 10) rfl ?_); refine goesL_ (some 24) rfl rfl Try.func10 (by kernel_rfl) rfl #[.string t344, .int .i64 t345] rfl (by (try simp only [List.map_toArray, List.map_cons, List.map_nil]); first | done | rfl | (simp only [List.length_drop, List.length_take]; rfl)) ?_; (with_reducible refine (impl_MakeOver.calls t344 t345 t346 t347 _ A4.out).mono ?_); rintro e w8 ⟨rfl, hb⟩; refine ⟨_, rfl, ?_⟩; have n0_ := Aside0.mk (below_step (by repeat (first | (with_reducible first | exact HB.out | apply below_alloc | apply pw_below_drewN | apply below_drew1) | exact HB.out)) hb); clear HB; have HB := n0_; clear n0_; (try clear hb); (try clear hb2); (try clear hk); (try clear hi)) | ((with_reducible refine gate_callee (f := 11) rfl ?_); refine goesL_ (some 30) rfl rfl Try.func11 (by kernel_rfl) rfl #[.string t344, .int .i64 t345] rfl (by (try simp only [List.map_toArray, List.map_cons, List.map_nil]); first | done | rfl | (simp only [List.length_drop, List.length_take]; rfl)) ?_; (with_reducible refine (spec_MakeOver.calls k t344 t345 t348 t349 _ A5.out).mono ?_); rintro e w9 ⟨rfl, hb⟩; refine ⟨_, rfl, ?_⟩; have n0_ := Aside0.mk (below_step (by repeat (first | (with_reducible first | exact HB.out | apply below_alloc | apply pw_below_drewN | apply below_drew1) | exact HB.out)) hb); clear HB; have HB := n0_; clear n0_; (try clear hb); (try clear hb2); (try clear hk); (try clear hi)))
    (try simp only [Act.put, List.setIfInBounds_toArray, List.set_cons_zero, List.set_cons_succ])
    go_cut [9] (fun v9 wc => ∃ (kq : Nat) (x9_5 : Bool), v9 = .bool x9_5 ∧ Aside0 (laws_FnMakeOver.j0 kq t344 t345 t346 t347 x9_5 = some r) ∧ Aside0 (kq ≤ k) ∧ Aside0 (Below w.heap.size w wc))
    case first =>
      have H := HC6.out
      clear HC6
      by_cases c10 : t346.toList = t348.toList
      · rw [if_pos c10] at H
        have c10b0 : (t346.toList == t348.toList) = true := beq_iff_eq.mpr c10
        have c10b1 : (t346.toList != t348.toList) = false := bne_eq_false_iff_eq.mpr c10
        clear c10
        (first | rw [c10b0] | (simp only [i64_w, i32_w]; rw [c10b0]) | skip)
        have H' := Aside0.mk H
        clear H
        go_wp2
        go_meet
        case rel => exact ⟨_, ((t347 == t349)), (by first | rfl | (simp; done) | (simp [*]; done) | (simp [Int.tmod_eq_emod_of_nonneg]; done)), H', ⟨by first | omega | exact Nat.le_refl _⟩, ⟨by repeat (first | (with_reducible first | exact HB.out | apply below_alloc | apply pw_below_drewN | apply below_drew1) | exact HB.out)⟩⟩
      · rw [if_neg c10] at H
        have c10b0 : (t346.toList == t348.toList) = false := beq_eq_false_iff_ne.mpr c10
        have c10b1 : (t346.toList != t348.toList) = true := bne_iff_ne.mpr c10
        (first | rw [c10b0] | (simp only [i64_w, i32_w]; rw [c10b0]) | skip)
        have H' := Aside0.mk H
        clear H
        go_wp2
        go_meet
        case rel => exact ⟨_, (false), (by first | rfl | (simp; done) | (simp [*]; done) | (simp [Int.tmod_eq_emod_of_nonneg]; done)), H', ⟨by first | omega | exact Nat.le_refl _⟩, ⟨by repeat (first | (with_reducible first | exact HB.out | apply below_alloc | apply pw_below_drewN | apply below_drew1) | exact HB.out)⟩⟩
    case rest =>
      clear HC6
      try clear c1
      try clear c2
      try clear c2b0
      try clear c2b1
      try clear p2
      try clear c3
      try clear c9
      try clear c10
      try clear c10b0
      try clear c10b1
      obtain ⟨kq, x9_5, rfl, HA, HJ5, HB⟩ := hcut
      cases kq with
      | zero => exact absurd HA.out (by simp [laws_FnMakeOver.j0])
      | succ kj5 =>
        have H := HA.out
        clear HA
        simp only [laws_FnMakeOver.j0] at H
        have HC11 := Aside0.mk H
        clear H
        go_upto_region 7 with (fail)
        go_cut [46] (fun v46 wc => ∃ (kq : Nat) (x46_10 : Bool), v46 = .bool x46_10 ∧ Aside0 (laws_FnMakeOver.j1 kq t344 t345 t346 x9_5 x46_10 = some r) ∧ Aside0 (kq ≤ kj5) ∧ Aside0 (Below w.heap.size w wc))
        case first =>
          have H := HC11.out
          clear HC11
          by_cases c12 : x9_5 = true
          · subst c12
            have H1 : (laws_FnMakeOver.j1 kj5 t344 t345 t346 true (!t347)) = some r := by rw [if_pos rfl] at H; exact H
            clear H
            have H := H1
            clear H1
            have H' := Aside0.mk H
            clear H
            go_wp2
            go_meet
            case rel => exact ⟨_, (!t347), (by first | rfl | (simp; done) | (simp [*]; done) | (simp [Int.tmod_eq_emod_of_nonneg]; done)), H', ⟨by have := HJ5.out; first | omega | exact Nat.le_refl _⟩, ⟨by repeat (first | (with_reducible first | exact HB.out | apply below_alloc | apply pw_below_drewN | apply below_drew1) | exact HB.out)⟩⟩
          · replace c12 := Bool.eq_false_iff.mpr c12
            subst c12
            have H1 : (laws_FnMakeOver.j1 kj5 t344 t345 t346 false true) = some r := by rw [if_neg (show ¬ (false = true) by decide)] at H; exact H
            clear H
            have H := H1
            clear H1
            have H' := Aside0.mk H
            clear H
            go_wp2
            go_meet
            case rel => exact ⟨_, (true), (by first | rfl | (simp; done) | (simp [*]; done) | (simp [Int.tmod_eq_emod_of_nonneg]; done)), H', ⟨by have := HJ5.out; first | omega | exact Nat.le_refl _⟩, ⟨by repeat (first | (with_reducible first | exact HB.out | apply below_alloc | apply pw_below_drewN | apply below_drew1) | exact HB.out)⟩⟩
        case rest =>
          clear HC11
          try clear c1
          try clear c2
          try clear c2b0
          try clear c2b1
          try clear p2
          try clear c3
          try clear c9
          try clear c10
          try clear c10b0
          try clear c10b1
          try clear c11
          try clear c12
          try clear p2
          obtain ⟨kq, x46_10, rfl, HA, HJ10, HB⟩ := hcut
          cases kq with
          | zero => exact absurd HA.out (by simp [laws_FnMakeOver.j1])
          | succ kj10 =>
            have H := HA.out
            clear HA
            simp only [laws_FnMakeOver.j1] at H
            by_cases c13 : x46_10 = true
            · subst c13
              have H1 : (some x9_5) = some r := by rw [if_pos rfl] at H; exact H
              clear H
              have H := H1
              clear H1
              obtain rfl := Option.some.inj H
              go_wp2
              go_ret
              exact ⟨by first | rfl | (simp [errW_none, errW_some] <;> rfl) | (simp [*, errW_none, errW_some] <;> rfl) | (simp [errW_none, errW_some]; exact ⟨rfl, rfl⟩), by repeat (first | (with_reducible first | exact HB.out | apply below_alloc | apply pw_below_drewN | apply below_drew1) | exact HB.out)⟩
            · replace c13 := Bool.eq_false_iff.mpr c13
              subst c13
              have H1 : (laws_FnMakeOver.l0 kj10 t344 t345 t346 0) = some r := by rw [if_neg (show ¬ (false = true) by decide)] at H; exact H
              clear H
              have H := H1
              clear H1
              have H' := Aside0.mk H
              clear H
              go_wp2
              go_loopg [10] kj10 (fun kq v10 w' => ∃ (x10_3 : Int), v10 = .int .i64 x10_3 ∧ Aside0 (laws_FnMakeOver.l0 kq t344 t345 t346 x10_3 = some r) ∧ Aside0 (kq ≤ kj10) ∧ Aside0 (Below w.heap.size w w'))
              case atStart => exact ⟨(0), (by first | rfl | (simp; done) | (simp [*]; done) | (simp [Int.tmod_eq_emod_of_nonneg]; done)), H', ⟨Nat.le_refl _⟩, ⟨by repeat (first | (with_reducible first | exact HB.out | apply below_alloc | apply pw_below_drewN | apply below_drew1) | exact HB.out)⟩⟩
              case round =>
                clear H'
                try clear c1
                try clear c2
                try clear c2b0
                try clear c2b1
                try clear p2
                try clear c3
                try clear c9
                try clear c10
                try clear c10b0
                try clear c10b1
                try clear c11
                try clear c12
                try clear c13
                try clear p2
                obtain ⟨x10_3, rfl, HA, HK3, HB⟩ := hrel
                cases gk with
                | zero => exact absurd HA.out (by simp [laws_FnMakeOver.l0])
                | succ k3 =>
                  have H := HA.out
                  clear HA
                  simp only [laws_FnMakeOver.l0] at H
                  by_cases c14 : x10_3 ≤ 60
                  · rw [if_pos c14] at H
                    have c14b0 : decide (x10_3 ≤ 60) = true := decide_eq_true c14
                    clear c14
                    have H' := Aside0.mk H
                    clear H
                    go_wp2
                    go_loopg [11, 12] k3 (fun kq v11 v12 w' => ∃ (x11_4 : Bool) (x12_4 : Int), v11 = .bool x11_4 ∧ v12 = .int .i64 x12_4 ∧ Aside0 (laws_FnMakeOver.l1 kq t344 t345 t346 x10_3 x11_4 x12_4 = some r) ∧ Aside0 (kq ≤ k3) ∧ Aside0 (Below w.heap.size w w'))
                    case atStart => exact ⟨(false), (0), (by first | rfl | (simp; done) | (simp [*]; done) | (simp [Int.tmod_eq_emod_of_nonneg]; done)), (by first | rfl | (simp; done) | (simp [*]; done) | (simp [Int.tmod_eq_emod_of_nonneg]; done)), H', ⟨Nat.le_refl _⟩, ⟨by repeat (first | (with_reducible first | exact HB.out | apply below_alloc | apply pw_below_drewN | apply below_drew1) | exact HB.out)⟩⟩
                    case round =>
                      clear H'
                      try clear c1
                      try clear c2
                      try clear c2b0
                      try clear c2b1
                      try clear p2
                      try clear c3
                      try clear c9
                      try clear c10
                      try clear c10b0
                      try clear c10b1
                      try clear c11
                      try clear c12
                      try clear c13
                      try clear c14
                      try clear c14b0
                      try clear p2
                      obtain ⟨x11_4, x12_4, rfl, rfl, HA, HK4, HB⟩ := hrel
                      cases gk with
                      | zero => exact absurd HA.out (by simp [laws_FnMakeOver.l1])
                      | succ k4 =>
                        have H := HA.out
                        clear HA
                        simp only [laws_FnMakeOver.l1] at H
                        by_cases c15 : x12_4 < t345
                        · rw [if_pos c15] at H
                          have c15b0 : decide (x12_4 < t345) = true := decide_eq_true c15
                          clear c15
                          by_cases c16 : x11_4 = true
                          · subst c16
                            have H1 : (laws_FnMakeOver.l1 k4 t344 t345 t346 x10_3 true (wrap64 (x12_4 + 1))) = some r := by rw [if_pos rfl] at H; exact H
                            clear H
                            have H := H1
                            clear H1
                            have H' := Aside0.mk H
                            clear H
                            go_wp2
                            go_roundg k4
                            case measure => have := HJ5.out; have := HJ10.out; have := HK3.out; have := HK4.out; omega
                            case rel => exact ⟨(true), (wrap64 (x12_4 + 1)), (by first | rfl | (simp; done) | (simp [*]; done) | (simp [Int.tmod_eq_emod_of_nonneg]; done)), (by first | rfl | (simp; done) | (simp [*]; done) | (simp [Int.tmod_eq_emod_of_nonneg]; done)), H', ⟨by have := HJ5.out; have := HJ10.out; have := HK3.out; have := HK4.out; omega⟩, ⟨by repeat (first | (with_reducible first | exact HB.out | apply below_alloc | apply pw_below_drewN | apply below_drew1) | exact HB.out)⟩⟩
                          · replace c16 := Bool.eq_false_iff.mpr c16
                            subst c16
                            have H1 : ((impl_SetHas.f k4 t344 (wrap64 ((wrap64 (t345 * x10_3)) + x12_4))).bind fun t350 => (laws_FnMakeOver.l1 k4 t344 t345 t346 x10_3 t350 (wrap64 (x12_4 + 1)))) = some r := by rw [if_neg (show ¬ (false = true) by decide)] at H; exact H
                            clear H
                            have H := H1
                            clear H1
                            replace H := Option.bind_eq_some_iff.mp H
                            obtain ⟨t350, A170, H⟩ := H
                            replace H : (laws_FnMakeOver.l1 k4 t344 t345 t346 x10_3 t350 (wrap64 (x12_4 + 1))) = some r := H
                            have A17 := Aside0.mk A170
                            clear A170
                            have H' := Aside0.mk H
                            clear H
                            go_wp2_with (first | (go_at_call 12; (with_reducible refine (impl_SetHas.calls k4 t344 (wrap64 ((wrap64 (t345 * x10_3)) + x12_4)) t350 _ A17.out).mono ?_); rintro e w18 ⟨rfl, hb⟩; have n0_ := Aside0.mk (below_step (by repeat (first | (with_reducible first | exact HB.out | apply below_alloc | apply pw_below_drewN | apply below_drew1) | exact HB.out)) hb); clear HB; have HB := n0_; clear n0_; (try clear hb); (try clear hb2); (try clear hk); (try clear hi)))
                            go_roundg k4
                            case measure => have := HJ5.out; have := HJ10.out; have := HK3.out; have := HK4.out; omega
                            case rel => exact ⟨(t350), (wrap64 (x12_4 + 1)), (by first | rfl | (simp; done) | (simp [*]; done) | (simp [Int.tmod_eq_emod_of_nonneg]; done)), (by first | rfl | (simp; done) | (simp [*]; done) | (simp [Int.tmod_eq_emod_of_nonneg]; done)), H', ⟨by have := HJ5.out; have := HJ10.out; have := HK3.out; have := HK4.out; omega⟩, ⟨by repeat (first | (with_reducible first | exact HB.out | apply below_alloc | apply pw_below_drewN | apply below_drew1) | exact HB.out)⟩⟩
                        · rw [if_neg c15] at H
                          have c15b0 : decide (x12_4 < t345) = false := decide_eq_false c15
                          clear c15
                          replace H := Option.bind_eq_some_iff.mp H
                          obtain ⟨t351, A190, H⟩ := H
                          replace H : (if (t351 != x11_4) = true then (some false) else (laws_FnMakeOver.l0 k4 t344 t345 t346 (wrap64 (x10_3 + 1)))) = some r := H
                          have A19 := Aside0.mk A190
                          clear A190
                          by_cases c20 : (t351 != x11_4) = true
                          · rw [if_pos c20] at H
                            have c20b0 : (t351 != x11_4) = true := c20
                            (try (have c20b1 : decide (t351 = x11_4) = false := by simpa using c20))
                            (try (have c20b2 : (t351 == x11_4) = false := by simpa using c20))
                            (try (have c20b3 : ¬ (t351 = x11_4) := by simpa using c20))
                            clear c20
                            obtain rfl := Option.some.inj H
                            go_wp2_with (first | ((with_reducible refine gate_callee (f := 12) rfl ?_); refine goesL_ (some 69) rfl rfl Try.func12 (by kernel_rfl) rfl #[.string t346, .int .i64 x10_3] rfl (by (try simp only [List.map_toArray, List.map_cons, List.map_nil]); first | done | rfl | (simp only [List.length_drop, List.length_take]; rfl)) ?_; (with_reducible refine (impl_SetHas.calls k4 t346 x10_3 t351 _ A19.out).mono ?_); rintro e w21 ⟨rfl, hb⟩; refine ⟨_, rfl, ?_⟩; have n0_ := Aside0.mk (below_step (by repeat (first | (with_reducible first | exact HB.out | apply below_alloc | apply pw_below_drewN | apply below_drew1) | exact HB.out)) hb); clear HB; have HB := n0_; clear n0_; (try clear hb); (try clear hb2); (try clear hk); (try clear hi)))
                            go_ret
                            exact ⟨by first | rfl | (simp [errW_none, errW_some] <;> rfl) | (simp [*, errW_none, errW_some] <;> rfl) | (simp [errW_none, errW_some]; exact ⟨rfl, rfl⟩), by repeat (first | (with_reducible first | exact HB.out | apply below_alloc | apply pw_below_drewN | apply below_drew1) | exact HB.out)⟩
                          · rw [if_neg c20] at H
                            have c20b0 : (t351 != x11_4) = false := by simpa using c20
                            (try (have c20b1 : decide (t351 = x11_4) = true := by simpa using c20))
                            (try (have c20b2 : (t351 == x11_4) = true := by simpa using c20))
                            clear c20
                            have H' := Aside0.mk H
                            clear H
                            go_wp2_with (first | ((with_reducible refine gate_callee (f := 12) rfl ?_); refine goesL_ (some 69) rfl rfl Try.func12 (by kernel_rfl) rfl #[.string t346, .int .i64 x10_3] rfl (by (try simp only [List.map_toArray, List.map_cons, List.map_nil]); first | done | rfl | (simp only [List.length_drop, List.length_take]; rfl)) ?_; (with_reducible refine (impl_SetHas.calls k4 t346 x10_3 t351 _ A19.out).mono ?_); rintro e w22 ⟨rfl, hb⟩; refine ⟨_, rfl, ?_⟩; have n0_ := Aside0.mk (below_step (by repeat (first | (with_reducible first | exact HB.out | apply below_alloc | apply pw_below_drewN | apply below_drew1) | exact HB.out)) hb); clear HB; have HB := n0_; clear n0_; (try clear hb); (try clear hb2); (try clear hk); (try clear hi)))
                            go_roundg k4
                            case measure => have := HJ5.out; have := HJ10.out; have := HK3.out; have := HK4.out; omega
                            case rel => exact ⟨(wrap64 (x10_3 + 1)), (by first | rfl | (simp; done) | (simp [*]; done) | (simp [Int.tmod_eq_emod_of_nonneg]; done)), H', ⟨by have := HJ5.out; have := HJ10.out; have := HK3.out; have := HK4.out; omega⟩, ⟨by repeat (first | (with_reducible first | exact HB.out | apply below_alloc | apply pw_below_drewN | apply below_drew1) | exact HB.out)⟩⟩
                  · rw [if_neg c14] at H
                    have c14b0 : decide (x10_3 ≤ 60) = false := decide_eq_false c14
                    clear c14
                    obtain rfl := Option.some.inj H
                    go_wp2
                    go_ret
                    exact ⟨by first | rfl | (simp [errW_none, errW_some] <;> rfl) | (simp [*, errW_none, errW_some] <;> rfl) | (simp [errW_none, errW_some]; exact ⟨rfl, rfl⟩), by repeat (first | (with_reducible first | exact HB.out | apply below_alloc | apply pw_below_drewN | apply below_drew1) | exact HB.out)⟩

/-- THE ONE PURE STATEMENT of laws_FnMakeOver: yours. -/
noncomputable def laws_FnMakeOver.Pure : Prop := ∀ (l0 : List Int), l0.length ≤ maxLen → l0.length * 1 ≤ 140737488351232 → (∀ x ∈ l0, (Lit.int .u8 x).wf = true) → ∃ k, laws_FnMakeOver.f k l0 = some true
theorem laws_FnMakeOver.walk (P : laws_FnMakeOver.Pure) (a0 : Option Addr) (len0 cap0 : Nat) (z0 : List Int) (w : World) (w0 : (a0 = none ∧ len0 = 0 ∧ cap0 = 0 ∧ z0 = []) ∨ ∃ x, a0 = some x ∧ len0 ≤ cap0 ∧ cap0 ≤ maxLen ∧ z0.length = cap0 ∧ (∀ i, i < z0.length → w.cell? (x.add i) = some (.int .u8 (z0.getD i 0))) ∧ ∀ n ∈ z0, (Lit.int .u8 n).wf = true) (y0 : len0 * 1 ≤ 140737488351232) :
    Calls Try.prog 3 #[.slice a0 len0 cap0] w fun e w' => e = .returned (.bool true) ∧ Below w.heap.size w w' := by
  obtain ⟨l0, rfl, hr0, hm0, hw0, hc0⟩ := ReadsInt.ofRowC w0
  obtain ⟨k, h⟩ := P l0 hm0 y0 hw0
  refine (laws_FnMakeOver.calls k _ _ l0 true w (Kd.C_of_reads (d := (0 : Int)) (h1 := fun _ => rfl) hr0) hc0 h).mono ?_
  rintro e w' ⟨rfl, hd⟩
  exact ⟨rfl, hd⟩

end Go.Proofs.Ytflfabdfkfigcaa.P

-- spec.MakeOver asks k numbers for each one.
namespace Go.Proofs.Ytflfabdfkfigcaa.P
open Go.RowKit Go.Proofs.YtflfabdfkfigcaaW.PrintWords Go.Proofs.YtflfabdfkfigcaaW.PrintLast Go.Proofs.YtflfabdfkfigcaaW.PrintMore
set_option linter.unusedVariables false
set_option linter.unusedSimpArgs false

theorem any_succ (g : Nat → Bool) (i : Nat) : (List.range (i + 1)).any g = ((List.range i).any g || g i) := by
  rw [List.range_succ, List.any_append]; simp
theorem smakeOver_l1 (a b : List Bool) (hb : b ≠ []) (hl : a.length + b.length ≤ 1000) (marks : List Bool) (hm : marks.length ≤ 1000) (k x : Nat) (hk : k ≤ 20) (hx : x ≤ 1000) (v : ByteArray × Bool)
    (hv : Ev (fun n => spec_MakeOver.l0 n k (marks ++ [ovq (hasB a b) k x]) ((x + 1 : Nat) : Int) a b) v) : ∀ (d i : Nat), i ≤ k → k - i = d →
    Ev (fun n => spec_MakeOver.l1 n k marks x ((List.range i).any fun j => hasB a b (k * x + j)) i a b) v := by
  have hkx : k * x ≤ 20 * 1000 := Nat.mul_le_mul hk hx
  have e1 : wrap64 ((k : Int) * (x : Int)) = ((k * x : Nat) : Int) := by rw [← Int.natCast_mul]; generalize k * x = y at hkx ⊢; exact w64 (by omega) (by omega)
  have HV := Aside0.mk hv
  clear hv
  have hlen : marks.length < 140737488355328 := by omega
  intro d
  induction d with
  | zero =>
    intro i h1 h2
    have e : i = k := by clear e1; omega
    subst e
    refine Ev.step (fun n => ?_) HV.out
    simp only [spec_MakeOver.l1]
    rw [if_neg (Int.lt_irrefl _), if_pos hlen, wsucc (by clear e1; omega)]; rfl
  | succ d ih =>
    intro i h1 h2
    have hik : i < k := by clear e1; omega
    have := ih (i + 1) (by clear e1; omega) (by clear e1; omega)
    rw [any_succ] at this
    cases hc : (List.range i).any fun j => hasB a b (k * x + j) with
    | true =>
      rw [hc, Bool.true_or] at this
      refine Ev.step (fun n => ?_) this
      simp only [spec_MakeOver.l1]
      rw [if_pos (by clear e1; omega), if_pos (by trivial), wsucc (by clear e1; omega)]
    | false =>
      rw [hc, Bool.false_or] at this
      have hb1 : k * x + i ≤ 1000000 := by clear e1; omega
      have e2 : wrap64 (((k * x : Nat) : Int) + (i : Int)) = ((k * x + i : Nat) : Int) := by clear e1; generalize k * x = y at hb1 ⊢; exact wadd (by omega)
      refine Ev.step (fun n => ?_) this
      simp only [spec_MakeOver.l1]
      rw [if_pos (by clear e1 e2; omega), if_neg (by decide), e1, e2, shas_f a b hb (by clear e1 e2; omega) _ (Nat.le_trans hb1 (by decide))]
      simp only [Option.bind_some]
      rw [wsucc (by clear e1 e2; omega)]
theorem smakeOver_l0 (a b : List Bool) (hb : b ≠ []) (ha : a.length ≤ 60) (hbl : b.length ≤ 60) (k : Nat) (h1k : 1 ≤ k) (hk : k ≤ 20) : ∀ (d x : Nat), x ≤ a.length + b.length → a.length + b.length - x = d →
    Ev (fun n => spec_MakeOver.l0 n k (mkT (ovq (hasB a b) k) x) x a b) (txt (cn (ovq (hasB a b) k))) := by
  have hpos := List.length_pos_iff.2 hb
  have hper := ovq_per (hasB_per a b) h1k
  have hw : wrap64 ((a.length : Int) + (b.length : Int)) = ((a.length + b.length : Nat) : Int) := wadd (by omega)
  intro d
  induction d with
  | zero =>
    intro x h1 h2
    have e : x = a.length + b.length := by omega
    subst e
    refine Ev.step (f := fun n => (spec_l2Fill.f n (mkT (ovq (hasB a b) k) (a.length + b.length)) (a.length : Int)).bind fun bt309 => (some (bt309.1, bt309.2))) (fun n => ?_) (Ev.bind (fill_f hpos hper (by omega)) (Ev.now _))
    simp only [spec_MakeOver.l0]
    rw [hw, if_neg (by omega)]
  | succ d ih =>
    intro x h1 h2
    have h3 := ih (x + 1) (by omega) (by omega)
    rw [mkT_succ] at h3
    have h4 := smakeOver_l1 a b hb (by omega) _ (by rw [mkT_length]; omega) k x hk (by omega) _ h3 _ 0 (Nat.zero_le _) rfl
    refine Ev.step (fun n => ?_) h4
    simp only [spec_MakeOver.l0]
    rw [hw, if_pos (by omega)]; rfl
theorem smakeOver_f (s : ByteArray) (hs : s.size ≤ 70368744177664) (k : Int) : Ev (fun n => spec_MakeOver.f n s k) (ovr (chrs s) k) := by
  have out : ∀ a b, Ev (fun n => spec_MakeOver.j0 n k true a b) ((⟨#[]⟩ : ByteArray), false) := fun a b => by
    refine Ev.step (f := fun n => some ((⟨#[]⟩ : ByteArray), false)) (fun n => ?_) (Ev.now _)
    simp only [spec_MakeOver.j0]; rfl
  refine Ev.congr (fun n => rfl) (Ev.bind (read_f s hs) ?_)
  unfold parsed
  cases h : parse (chrs s) with
  | none =>
    have e : ovr (chrs s) k = (⟨#[]⟩, false) := by unfold ovr; rw [h]; rfl
    rw [e]; simp only [Bool.false_eq_true, if_false]; exact out _ _
  | some ab =>
    have hb := parse_some (a := ab.1) (b := ab.2) h
    simp only [if_true, l6in_f, Option.bind_some]
    by_cases hk : 1 ≤ k ∧ k ≤ 20
    · obtain ⟨k, rfl⟩ := Int.eq_ofNat_of_zero_le (show 0 ≤ k by omega)
      have e : ovr (chrs s) k = txt (cn (ovq (hasB ab.1 ab.2) k)) := by
        unfold ovr; rw [h, setf_some (a := ab.1) (b := ab.2) h, decide_eq_true hk, Int.toNat_natCast]; rfl
      rw [e]
      simp only [decide_eq_true hk, Bool.not_true]
      refine Ev.step (fun n => ?_) (smakeOver_l0 ab.1 ab.2 hb.2.2 hb.1 hb.2.1 k (by omega) (by omega) _ 0 (by omega) rfl)
      simp only [spec_MakeOver.j0]
      rw [if_neg (by decide)]; rfl
    · have e : ovr (chrs s) k = (⟨#[]⟩, false) := by unfold ovr; rw [decide_eq_false hk, Bool.and_false]; rfl
      rw [e]; simp only [decide_eq_false hk, Bool.not_false]; exact out _ _
end Go.Proofs.Ytflfabdfkfigcaa.P

-- For every code the law FnMakeOver holds.
namespace Go.Proofs.Ytflfabdfkfigcaa.P
open Go.RowKit Go.Proofs.YtflfabdfkfigcaaW.PrintWords Go.Proofs.YtflfabdfkfigcaaW.PrintLast Go.Proofs.YtflfabdfkfigcaaW.PrintMore
set_option linter.unusedVariables false
set_option linter.unusedSimpArgs false

theorem drawOver_f (l : List Int) (h : ∀ x ∈ l, (Lit.int .u8 x).wf = true) : ∃ (s : ByteArray) (n0 : Int), Few s ∧ -2 ≤ n0 ∧ n0 ≤ 2000 ∧ Ev (fun k => spec_DrawMakeOver.f k l) (s, n0) := by
  obtain ⟨s, q, hf, hq, K0, h0⟩ := set91_f (code_of h) 0 (by omega)
  dsimp only at h0
  have g0 : ∀ k, K0 ≤ k → spec_l91Set.f k (l.take 2000) 0 = some (s, (q : Int)) := h0
  obtain ⟨v0, p0, a0, b0, c0, K1, h1⟩ := num91_f (code_of h) q 19 (by omega) (by omega)
  dsimp only at h1
  have g1 : ∀ k, K1 ≤ k → spec_l91Number.f k (l.take 2000) (q : Int) 19 = some (v0, (p0 : Int)) := h1
  have w0 : wrap64 (1 + v0) = 1 + v0 := w64 (by omega) (by omega)
  refine ⟨s, 1 + v0, hf, by omega, by omega, K0 + K1, fun k hk => ?_⟩
  dsimp only
  unfold spec_DrawMakeOver.f
  rw [open_f, Option.bind_some, g0 k (by omega), Option.bind_some, g1 k (by omega), Option.bind_some]
  rw [w0]
theorem lawMakeOver_l1 (s x0 : ByteArray) (hs : s.size ≤ 70368744177664) (hx : x0.size ≤ 122) (a n : Nat) (ha : a ≤ 20) (hn : n ≤ 60) (hq : setf (chrs x0) = ovq (setf (chrs s)) a) (h3 : Ev (fun k => laws_FnMakeOver.l0 k s a x0 ((n + 1 : Nat) : Int)) true) : ∀ (d i : Nat), i ≤ a → a - i = d →
    Ev (fun k => laws_FnMakeOver.l1 k s a x0 n ((List.range i).any fun j => setf (chrs s) (a * n + j)) i) true := by
  have hm : a * n ≤ 20 * 60 := Nat.mul_le_mul ha hn
  intro d
  induction d with
  | zero =>
    intro i hi hd
    have e : i = a := by omega
    subst e
    obtain ⟨K3, h3⟩ := h3
    dsimp only at h3
    obtain ⟨K1, h1⟩ := isetHas_f x0 (by omega) n (by omega)
    dsimp only at h1
    rw [hq] at h1
    have h1 : ∀ k, K1 ≤ k → impl_SetHas.f k x0 n = some ((List.range i).any fun j => setf (chrs s) (i * n + j)) := h1
    refine ⟨K1 + K3 + 1, fun k hk => ?_⟩
    obtain ⟨k, rfl, hk2⟩ := down1 hk
    simp only [laws_FnMakeOver.l1]
    rw [if_neg (Int.lt_irrefl _), h1 k (by omega), Option.bind_some, if_neg (bne_no _), wsucc (by omega)]
    exact h3 k (by omega)
  | succ d ih =>
    intro i hi hd
    obtain ⟨K2, h2⟩ := ih (i + 1) (by omega) (by omega)
    dsimp only at h2
    rw [any_succ] at h2
    cases hc : (List.range i).any fun j => setf (chrs s) (a * n + j) with
    | true =>
      rw [hc, Bool.true_or] at h2
      refine ⟨K2 + 1, fun k hk => ?_⟩
      obtain ⟨k, rfl, hk2⟩ := down1 hk
      simp only [laws_FnMakeOver.l1]
      rw [if_pos (by omega), if_pos (by trivial), wsucc (by omega)]
      exact h2 k (by omega)
    | false =>
      rw [hc, Bool.false_or] at h2
      have hb1 : a * n + i ≤ 1000000 := by omega
      obtain ⟨K1, h1⟩ := isetHas_f s hs (a * n + i) hb1
      dsimp only at h1
      refine ⟨K1 + K2 + 1, fun k hk => ?_⟩
      obtain ⟨k, rfl, hk2⟩ := down1 hk
      simp only [laws_FnMakeOver.l1]
      rw [if_pos (by omega), if_neg (by decide), wmul (by omega), wadd (by omega), h1 k (by omega), Option.bind_some, wsucc (by omega)]
      exact h2 k (by omega)
theorem lawMakeOver_l0 (s x0 : ByteArray) (hs : s.size ≤ 70368744177664) (hx : x0.size ≤ 122) (a : Nat) (ha : a ≤ 20) (hq : setf (chrs x0) = ovq (setf (chrs s)) a) (ht : tdy (chrs x0) = (x0, true)) : ∀ (d n : Nat), n ≤ 61 → 61 - n = d →
    Ev (fun k => laws_FnMakeOver.l0 k s a x0 n) true := by
  intro d
  induction d with
  | zero =>
    intro n hn hd
    have e : n = 61 := by omega
    subst e
    refine ⟨1, fun k hk => ?_⟩
    obtain ⟨k, rfl, hk2⟩ := down1 hk
    simp only [laws_FnMakeOver.l0]
    rw [if_neg (by omega)]
  | succ d ih =>
    intro n hn hd
    obtain ⟨K3, h3⟩ := ih (n + 1) (by omega) (by omega)
    dsimp only at h3
    obtain ⟨K1, h1⟩ := isetHas_f x0 (by omega) n (by omega)
    dsimp only at h1
    rw [hq] at h1
    obtain ⟨K2, h2⟩ := lawMakeOver_l1 s x0 hs hx a n ha (by omega) hq ⟨K3, h3⟩ _ 0 (Nat.zero_le _) rfl
    dsimp only at h2
    refine ⟨K2 + 1, fun k hk => ?_⟩
    obtain ⟨k, rfl, hk2⟩ := down1 hk
    simp only [laws_FnMakeOver.l0]
    rw [if_pos (by omega)]
    exact h2 k hk2
theorem lawMakeOver_ev (l : List Int) (h : ∀ x ∈ l, (Lit.int .u8 x).wf = true) : Ev (fun k => laws_FnMakeOver.f k l) true := by
  by_cases hl : (l.length : Int) > 1048576
  · exact ⟨0, fun k _ => by dsimp only; unfold laws_FnMakeOver.f; rw [if_pos hl]⟩
  · obtain ⟨s, n0, hf, lo0, hi0, K1, h1⟩ := drawOver_f l h
    dsimp only at h1
    have hz := hf.size
    have hs : s.size ≤ 70368744177664 := by omega
    obtain ⟨K2, h2⟩ := smakeOver_f s hs n0
    dsimp only at h2
    have h3 := makeOver_f s hs n0
    have main : Ev (fun k => laws_FnMakeOver.j0 k s n0 (ovr (chrs s) n0).1 (ovr (chrs s) n0).2 true) true := by
      cases h4 : (ovr (chrs s) n0).2 with
      | false =>
        refine Ev.step (f := fun k => laws_FnMakeOver.j1 k s n0 (ovr (chrs s) n0).1 true true) (fun k => ?_) (Ev.step (f := fun k => some true) (fun k => ?_) (Ev.now _))
        · simp only [laws_FnMakeOver.j0]; rfl
        · simp only [laws_FnMakeOver.j1]; rfl
      | true =>
        unfold ovr at h4 ⊢
        obtain ⟨hc, hA⟩ := ite_ok h4
        rw [if_pos hc]
        rw [Bool.and_eq_true] at hc
        have hr := of_decide_eq_true hc.2
        obtain ⟨kk, rfl⟩ := Int.eq_ofNat_of_zero_le (show 0 ≤ n0 by omega)
        rw [Int.toNat_natCast] at hA ⊢
        obtain ⟨⟨a, b⟩, hp⟩ := Option.isSome_iff_exists.1 hc.1
        have hb := parse_some hp
        have hpos := List.length_pos_iff.2 hb.2.2
        have hset := setf_some hp
        have hper : Per (ovq (setf (chrs s)) kk) a.length b.length := by rw [hset]; exact ovq_per (hasB_per a b) (by omega)
        refine Ev.step (f := fun k => laws_FnMakeOver.j1 k s kk (txt (cn (ovq (setf (chrs s)) kk))).1 true false) (fun k => ?_) (Ev.step (fun k => ?_) (lawMakeOver_l0 s _ hs (txt_size _) kk (by omega) (txt_setf hpos hper hA) (txt_tdy hpos hper hA) _ 0 (by omega) rfl))
        · simp only [laws_FnMakeOver.j0]; rfl
        · simp only [laws_FnMakeOver.j1]; rfl
    obtain ⟨K4, h4⟩ := main
    dsimp only at h4
    refine ⟨K1 + K2 + K4, fun k hk => ?_⟩
    dsimp only
    unfold laws_FnMakeOver.f
    rw [if_neg hl, h1 k (by omega), Option.bind_some]
    try dsimp only
    rw [h3, Option.bind_some, h2 k (by omega), Option.bind_some, if_pos rfl, BEq.rfl]
    exact h4 k (by omega)
theorem lawMakeOver_pure : laws_FnMakeOver.Pure := fun l _ _ h => (lawMakeOver_ev l h).rounds
end Go.Proofs.Ytflfabdfkfigcaa.P

-- For every code the law FnMakeOver holds.
namespace Go.Proofs.Ytflfabdfkfigcaa.Pure
theorem FnMakeOver : Go.Proofs.Ytflfabdfkfigcaa.P.laws_FnMakeOver.Pure := Go.Proofs.Ytflfabdfkfigcaa.P.lawMakeOver_pure
end Go.Proofs.Ytflfabdfkfigcaa.Pure
