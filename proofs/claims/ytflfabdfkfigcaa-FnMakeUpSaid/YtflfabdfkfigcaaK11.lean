/- What these laws reach, joined by a program of this session: contracts (written by that program over the kit's print, or by hand) and plain lemmas. -/
import Derived.Test.YtflfabdfkfigcaaK1
import Derived.Test.YtflfabdfkfigcaaK2
import Derived.Test.YtflfabdfkfigcaaK3
import Derived.Test.YtflfabdfkfigcaaK4
import Derived.Test.YtflfabdfkfigcaaK5
-- impl.MakeUp: the set, k more.
namespace Go.Proofs.Ytflfabdfkfigcaa.P
open Go.RowKit Go.Proofs.YtflfabdfkfigcaaW.PrintWords Go.Proofs.YtflfabdfkfigcaaW.PrintLast Go.Proofs.YtflfabdfkfigcaaW.PrintMore
set_option linter.unusedVariables false
set_option linter.unusedSimpArgs false

/-- Each number, k more. -/
def upq (f : Nat → Bool) (k : Nat) : Nat → Bool := fun n => if n < k then false else f (n - k)
theorem upq_per {f : Nat → Bool} {m p : Nat} (h : Per f m p) (k : Nat) : Per (upq f k) (m + k) p := fun n hn => by
  unfold upq
  rw [if_neg (by omega), if_neg (by omega), show n + p - k = n - k + p by omega]
  exact h _ (by omega)
theorem shf_upq (f : Nat → Bool) (k : Nat) : (fun n => upq f k (n + k)) = f := by
  funext n; unfold upq; rw [if_neg (by omega), Nat.add_sub_cancel]
/-- What impl.MakeUp answers. -/
noncomputable def upr (s : List UInt8) (k : Int) : ByteArray × Bool := if (parse s).isSome && decide (0 ≤ k ∧ k ≤ 60) then txt (cn (upq (setf s) k.toNat)) else (⟨#[]⟩, false)
noncomputable def impl_MakeUp.f (s : ByteArray) (k : Int) : Option (ByteArray × Bool) := if s.size ≤ 70368744177664 then some (upr (chrs s) k) else none
theorem makeUp_f (s : ByteArray) (hs : s.size ≤ 70368744177664) (k : Int) : impl_MakeUp.f s k = some (upr (chrs s) k) := by unfold impl_MakeUp.f; rw [if_pos hs]

theorem up_has (t r : List Bool) (hr : r ≠ []) (hl : t.length + r.length ≤ 1000000) (n k : Nat) (hn : n ≤ 1000000) (hk : k ≤ 1000000) : impl_set_has.f t r ((n : Int) - (k : Int)) = some (upq (hasB t r) k n) := by
  unfold upq
  by_cases h : n < k
  · rw [if_pos h, ihas_neg t r _ (by omega)]
  · rw [if_neg h, show (n : Int) - (k : Int) = ((n - k : Nat) : Int) by omega, ihas_f t r hr (by omega) _ (by omega)]
set_option maxHeartbeats 8000000 in
set_option maxRecDepth 100000 in
theorem up_q_calls (t r : List Bool) (hr : r ≠ []) (hl : t.length ≤ 60 ∧ r.length ≤ 60) (A0 : Option Addr) (c0 : Nat) (A1 : Option Addr) (c1 n k b b2 : Nat) (hn : n ≤ 100000) (hk2 : k ≤ 1000) (W : World)
    (hC0 : Kd.C Kd.bool W A0 t.length t) (h0 : t.length ≤ c0) (hC1 : Kd.C Kd.bool W A1 r.length r) (h1 : r.length ≤ c1) (hb : W.cell? ⟨b, 0, none⟩ = some (.int .i64 (k : Int)))
    (hx0 : W.cell? ⟨b2, 0, none⟩ = some (.slice A0 t.length c0)) (hx1 : W.cell? ⟨b2, 1, none⟩ = some (.slice A1 r.length c1)) :
    Calls Try.prog 44 #[.int .i64 n, .pointer (some ⟨b2, 0, none⟩), .pointer (some ⟨b, 0, none⟩)] W fun e w' => e = .returned (.bool (upq (hasB t r) k n)) ∧ Below W.heap.size W w' := by
  have HC := fun (W' : World) (hw : Below W.heap.size W W') => Aside0.mk (impl_set_has.calls A0 c0 t A1 c1 r ((n : Int) - (k : Int)) (upq (hasB t r) k n) W' (Kd.C_below hC0 hw) h0 (Kd.C_below hC1 hw) h1 (up_has t r hr (by omega) n k (by omega) (by omega)))
  have hu := Try.underlying44
  have hsub : IntKind.i64.wrap ((n : Int) - (k : Int)) = (n : Int) - (k : Int) := by rw [IntKind.wrap_i64]; omega
  generalize upq (hasB t r) k n = res at *
  clear hC0 hC1 h0 h1 hl hr
  go_enter Try.func44, Try.ntmps44
  go_wp2_with (go_at_call 37; refine (HC _ (Below.refl _ _)).out.mono ?_; rintro e w' ⟨rfl, hb⟩)
  go_ret
  exact ⟨rfl, hb⟩

theorem up_cell_two (w : World) (x y : Value) (T : TypeId) : (w.alloc (.cells #[x, y] T)).cell? ⟨w.heap.size, 0, none⟩ = some x ∧ (w.alloc (.cells #[x, y] T)).cell? ⟨w.heap.size, 1, none⟩ = some y := ⟨by simp, by simp⟩
set_option maxHeartbeats 8000000 in
set_option maxRecDepth 100000 in
theorem impl_MakeUp.calls (a0 : ByteArray) (a1 : Int) (r1 : ByteArray) (r2 : Bool) (w : World) (h : impl_MakeUp.f a0 a1 = some (r1, r2)) :
    Calls Try.prog 14 #[.string a0, .int .i64 a1] w fun e w' => e = .returned (.tuple #[.string r1, .bool r2]) ∧ Below w.heap.size w w' := by
  unfold impl_MakeUp.f at h
  split at h
  · rename_i hs
    simp only [Option.some.injEq] at h
    obtain ⟨x, y, hev, hxy⟩ := setOf_f a0 hs
    obtain ⟨k, hk⟩ := hev.rounds
    have hu := Try.underlying44
    have hin := in_f a1 0 60
    have hR : r1 = (upr (chrs a0) a1).1 ∧ r2 = (upr (chrs a0) a1).2 := by rw [h]; exact ⟨rfl, rfl⟩
    obtain ⟨rfl, rfl⟩ := hR
    clear h
    cases hp : (parse (chrs a0)).isSome with
    | false =>
      have e : upr (chrs a0) a1 = (⟨#[]⟩, false) := by unfold upr; rw [hp]; rfl
      rw [e]
      rw [hp] at hk
      have HK := fun w => Aside0.mk (impl_setOf.calls k a0 x y false w hk)
      clear hk hev hxy hp e
      go_enter Try.func14, Try.ntmps14
      go_wp2_with (go_at_call 42; refine (HK _).out.mono ?_; rintro e w1 ⟨v0_, v1_, rfl, hR0, hR1, hb1⟩; obtain ⟨A0, n0, rfl, hn0, hC0⟩ := Kd.R_reads hR0; obtain ⟨A1, n1, rfl, hn1, hC1⟩ := Kd.R_reads hR1; clear hR0 hR1 hC0 hC1 hn0 hn1; have HB := Aside0.mk (below_step (below_alloc (Below.refl w.heap.size w) _) hb1); clear hb1)
      go_ret2
      refine ⟨rfl, ?_⟩
      repeat (first | exact HB.out | apply below_alloc | (refine below_set ?_ HB.out.size))
    | true =>
      obtain ⟨⟨a, c⟩, hpp⟩ := Option.isSome_iff_exists.1 hp
      obtain ⟨rfl, rfl⟩ := hxy a c hpp
      have hb := parse_some hpp
      have hpos := List.length_pos_iff.2 hb.2.2
      rw [hp] at hk
      have HK := fun w => Aside0.mk (impl_setOf.calls k a0 x y true w hk)
      by_cases hm : 0 ≤ a1 ∧ a1 ≤ 60
      · rw [decide_eq_true hm] at hin
        have HI := fun w => Aside0.mk (impl_in.calls a1 0 60 _ w hin)
        obtain ⟨kk, rfl⟩ := Int.eq_ofNat_of_zero_le hm.1
        have e : upr (chrs a0) (kk : Int) = txt (cn (upq (hasB x y) kk)) := by
          unfold upr; rw [hpp, setf_some hpp, decide_eq_true hm, Int.toNat_natCast]; rfl
        rw [e]
        have hkk : kk ≤ 60 := by omega
        have HL := Aside0.mk hb
        have HP := Aside0.mk hpos
        have hsum : IntKind.i64.wrap ((x.length : Int) + (kk : Int)) = ((x.length + kk : Nat) : Int) := by rw [IntKind.wrap_i64]; omega
        have eg : ∀ args w, (callFunc 44 args).run Try.prog w = .ok (.enter 44 args) w := enters_of Try.func44 (by kernel_rfl) rfl
        have HM := fun (lb : Array Value) (w : World) => Aside0.mk (made_calls (upq (hasB x y) kk) (x.length + kk) y.length hpos (upq_per (hasB_per x y) kk) (by omega) 44 lb w eg)
        have H2 := Aside0.mk hkk
        clear hb hp hpp hk hev hxy e hin hm hkk hpos eg
        go_enter Try.func14, Try.ntmps14
        go_wp2_with (first
          | (go_at_call 42; refine (HK _).out.mono ?_; rintro e w1 ⟨v0_, v1_, rfl, hR0, hR1, hb1⟩; obtain ⟨A0, n0, rfl, hn0, hC0⟩ := Kd.R_reads hR0; obtain ⟨A1, n1, rfl, hn1, hC1⟩ := Kd.R_reads hR1; have C0 := Aside0.mk hC0; have C1 := Aside0.mk hC1; have N0 := Aside0.mk hn0; have N1 := Aside0.mk hn1; clear hR0 hR1 hC0 hC1 hn0 hn1; have HB := Aside0.mk (below_step (below_alloc (Below.refl w.heap.size w) _) hb1); have f0 : w1.cell? ⟨w.heap.size, 0, none⟩ = some (.int .i64 (kk : Int)) := (hb1.cell (p := ⟨w.heap.size, 0, none⟩) (by simp)).trans (by simp); have l0 : w.heap.size < w1.heap.size := Nat.lt_of_lt_of_le (by simp) hb1.size; clear hb1)
          | (go_at_call 35; refine (HI _).out.mono ?_; rintro e w2 ⟨rfl, hd⟩; have hb2 := drawn0_below hd; have c0 : w2.cell? ⟨w.heap.size, 0, none⟩ = some (.int .i64 (kk : Int)) := (hb2.cell (p := ⟨w.heap.size, 0, none⟩) (by simp; omega)).trans (Lib.cell?_alloc_some _ f0); have c1 := (hb2.cell (p := ⟨w1.heap.size, 0, none⟩) (by simp)).trans (up_cell_two w1 (.slice A0 x.length n0) (.slice A1 y.length n1) _).1; have c2 := (hb2.cell (p := ⟨w1.heap.size, 1, none⟩) (by simp)).trans (up_cell_two w1 (.slice A0 x.length n0) (.slice A1 y.length n1) _).2; have hl2 : w1.heap.size < w2.heap.size := Nat.lt_of_lt_of_le (by simp) hb2.size; have HB2 := Aside0.mk (below_step (below_alloc (Below.refl w1.heap.size w1) _) hb2); clear hd hb2)
          | (go_at_call 43; refine ((HM _ _).out ?hc).mono ?_; (case hc =>
              intro W i hW hi
              have hq := HL.out
              have hBW := below_step HB2.out hW
              have h2 := H2.out
              exact up_q_calls x y hq.2.2 ⟨hq.1, hq.2.1⟩ A0 n0 A1 n1 i kk w.heap.size w1.heap.size (by omega) (by omega) W (Kd.C_below C0.out hBW) N0.out (Kd.C_below C1.out hBW) N1.out ((hW.cell (p := ⟨w.heap.size, 0, none⟩) (by show w.heap.size < w2.heap.size; omega)).trans c0) ((hW.cell (p := ⟨w1.heap.size, 0, none⟩) hl2).trans c1) ((hW.cell (p := ⟨w1.heap.size, 1, none⟩) hl2).trans c2)); rintro e w4 ⟨rfl, hb4⟩))
        go_ret2
        exact ⟨rfl, below_step (below_step HB.out HB2.out) hb4⟩
      · rw [decide_eq_false hm] at hin
        have HI := fun w => Aside0.mk (impl_in.calls a1 0 60 _ w hin)
        have e : upr (chrs a0) a1 = (⟨#[]⟩, false) := by unfold upr; rw [decide_eq_false hm, Bool.and_false]; rfl
        rw [e]
        clear hb hp hpp hk hev hxy e hin hm hpos
        go_enter Try.func14, Try.ntmps14
        go_wp2_with (first
          | (go_at_call 42; refine (HK _).out.mono ?_; rintro e w1 ⟨v0_, v1_, rfl, hR0, hR1, hb1⟩; obtain ⟨A0, n0, rfl, hn0, hC0⟩ := Kd.R_reads hR0; obtain ⟨A1, n1, rfl, hn1, hC1⟩ := Kd.R_reads hR1; clear hR0 hR1 hC0 hC1 hn0 hn1; have HB := Aside0.mk (below_step (below_alloc (Below.refl w.heap.size w) _) hb1); have f0 : w1.cell? ⟨w.heap.size, 0, none⟩ = some (.int .i64 a1) := (hb1.cell (p := ⟨w.heap.size, 0, none⟩) (by simp)).trans (by simp); have l0 : w.heap.size < w1.heap.size := Nat.lt_of_lt_of_le (by simp) hb1.size; clear hb1)
          | (go_at_call 35; refine (HI _).out.mono ?_; rintro e w2 ⟨rfl, hd⟩; have HB2 := Aside0.mk (below_step (below_alloc (Below.refl w1.heap.size w1) _) (drawn0_below hd)); clear hd))
        go_ret2
        exact ⟨rfl, below_step HB.out HB2.out⟩
  · cases h
end Go.Proofs.Ytflfabdfkfigcaa.P

namespace Go.Proofs.Ytflfabdfkfigcaa.P
open Go.RowKit Go.Proofs.YtflfabdfkfigcaaW.PrintWords Go.Proofs.YtflfabdfkfigcaaW.PrintLast Go.Proofs.YtflfabdfkfigcaaW.PrintMore
attribute [local go_sem] max2_int min2_int max_two min_two max_three min_three max_four min_four   -- for this text's walks alone
set_option linter.unusedVariables false
set_option linter.unusedSimpArgs false

/-! ### spec_DrawMakeUp: function 13 -/
def spec_DrawMakeUp.f (k : Nat) (l0 : List Int) : Option (ByteArray × Int) := (spec_l6Open.f l0).bind fun bt352 => ((spec_l91Set.f k bt352.1 bt352.2).bind fun bt355 => ((spec_l91Number.f k bt352.1 bt355.2 60).bind fun bt357 => (some (bt355.1, bt357.1))))
theorem spec_DrawMakeUp.mono : ∀ a0 k, LeO (spec_DrawMakeUp.f k a0) (spec_DrawMakeUp.f (k + 1) a0) := by
  intro a0 k
  unfold spec_DrawMakeUp.f
  repeat' first
      | (with_reducible exact spec_l91Number.mono _ _ _ _)
      | (with_reducible exact spec_l91Set.mono _ _ _)
      | (with_reducible exact LeO.refl _)
      | (with_reducible exact LeO.none _)
      | (with_reducible refine LeO.ite ?_ ?_)
      | (with_reducible refine LeO.bind ?_ (fun _ => ?_))
      | exact spec_l91Number.mono _ _ _ _
      | exact spec_l91Set.mono _ _ _
      | exact LeO.none _
      | refine LeO.ite ?_ ?_
      | refine LeO.bind ?_ (fun _ => ?_)
set_option maxHeartbeats 8000000 in
set_option maxRecDepth 100000 in
theorem spec_DrawMakeUp.calls (k : Nat) (A0 : Option Addr) (c0 : Nat) (l0 : List Int) (r1 : ByteArray) (r2 : Int) (w : World) (hr0 : Kd.C (Kd.int .u8) w A0 l0.length l0) (hc0 : l0.length ≤ c0) (h : spec_DrawMakeUp.f k l0 = some (r1, r2)) :
    Calls Try.prog 13 #[.slice A0 l0.length c0] w fun e w' => e = .returned (.tuple #[.string r1, .int .i64 r2]) ∧ Below w.heap.size w w' := by
  have HR0 := Aside0.mk hr0
  have HC0 := Aside0.mk hc0
  clear hr0 hc0
  have HB := Aside0.mk (Below.refl w.heap.size w)
  have H : ((spec_l6Open.f l0).bind fun bt352 => ((spec_l91Set.f k bt352.1 bt352.2).bind fun bt355 => ((spec_l91Number.f k bt352.1 bt355.2 60).bind fun bt357 => (some (bt355.1, bt357.1))))) = some (r1, r2) := h
  clear h
  replace H := Option.bind_eq_some_iff.mp H
  obtain ⟨⟨t352, t353⟩, A20, H⟩ := H
  replace H : ((spec_l91Set.f k t352 t353).bind fun bt355 => ((spec_l91Number.f k t352 bt355.2 60).bind fun bt357 => (some (bt355.1, bt357.1)))) = some (r1, r2) := H
  have A2 := Aside0.mk A20
  clear A20
  replace H := Option.bind_eq_some_iff.mp H
  obtain ⟨⟨t355, t356⟩, A30, H⟩ := H
  replace H : ((spec_l91Number.f k t352 t356 60).bind fun bt357 => (some (t355, bt357.1))) = some (r1, r2) := H
  have A3 := Aside0.mk A30
  clear A30
  replace H := Option.bind_eq_some_iff.mp H
  obtain ⟨⟨t357, t358⟩, A40, H⟩ := H
  replace H : (some (t355, t357)) = some (r1, r2) := H
  have A4 := Aside0.mk A40
  clear A40
  simp only [Option.some.injEq, Prod.mk.injEq] at H
  obtain ⟨rfl, rfl⟩ := H
  go_enter Try.func13, Try.ntmps13
  go_wp2_with (first | ((with_reducible refine gate_callee (f := 31) rfl ?_); refine goesL_ (some 6) rfl rfl Try.func31 (by kernel_rfl) rfl #[.slice A0 l0.length c0] rfl (by (try simp only [List.map_toArray, List.map_cons, List.map_nil]); first | done | rfl | (simp only [List.length_drop, List.length_take]; rfl)) ?_; (with_reducible refine (spec_l6Open.calls _ _ l0 t352 t353 w _ ?side1 ?side2 ?side3 A2.out).mono ?_); (case side1 => repeat (first | (with_reducible first | exact HB.out | apply below_alloc | apply pw_below_drewN | apply below_drew1) | exact HB.out)); (case side2 => exact HR0.out); (case side3 => exact HC0.out); rintro e w5 ⟨g354, rfl, hi, hb, hb2⟩; refine ⟨_, rfl, ?_⟩; have n0_ := Aside0.mk (hb); have n1_ := Aside0.mk (hi); clear HB; have HB := n0_; have HI354 := n1_; clear n0_ n1_; (try clear hb); (try clear hb2); (try clear hk); (try clear hi)) | ((with_reducible refine gate_callee (f := 32) rfl ?_); refine goesL_ (some 8) rfl rfl Try.func32 (by kernel_rfl) rfl #[.pointer (some ⟨g354, 0, none⟩)] rfl (by (try simp only [List.map_toArray, List.map_cons, List.map_nil]); first | done | rfl | (simp only [List.length_drop, List.length_take]; rfl)) ?_; (with_reducible refine (spec_l91Set.calls k g354 t352 t353 t355 t356 w _ ?side1 ?side2 A3.out).mono ?_); (case side1 => repeat (first | (with_reducible first | exact HI354.out | apply IsS64.alloc | apply IsS64.drewN | apply IsS64.drew | apply IsS64.set_1) | exact HI354.out)); (case side2 => repeat (first | (with_reducible first | exact HB.out | apply below_alloc | apply pw_below_drewN | apply below_drew1 | refine below_set ?_ (IsS64.ge HI354.out)) | exact HB.out)); rintro e w6 ⟨rfl, hi, hb, hk⟩; refine ⟨_, rfl, ?_⟩; have n0_ := Aside0.mk (hb); have n1_ := Aside0.mk (hi); clear HB; clear HI354; have HB := n0_; have HI354 := n1_; clear n0_ n1_; (try clear hb); (try clear hb2); (try clear hk); (try clear hi)) | ((with_reducible refine gate_callee (f := 33) rfl ?_); refine goesL_ (some 10) rfl rfl Try.func33 (by kernel_rfl) rfl #[.pointer (some ⟨g354, 0, none⟩), .int .i64 60] rfl (by (try simp only [List.map_toArray, List.map_cons, List.map_nil]); first | done | rfl | (simp only [List.length_drop, List.length_take]; rfl)) ?_; (with_reducible refine (spec_l91Number.calls k g354 t352 t356 60 t357 t358 w _ ?side1 ?side2 A4.out).mono ?_); (case side1 => repeat (first | (with_reducible first | exact HI354.out | apply IsS64.alloc | apply IsS64.drewN | apply IsS64.drew | apply IsS64.set_1) | exact HI354.out)); (case side2 => repeat (first | (with_reducible first | exact HB.out | apply below_alloc | apply pw_below_drewN | apply below_drew1 | refine below_set ?_ (IsS64.ge HI354.out)) | exact HB.out)); rintro e w7 ⟨rfl, hi, hb, hk⟩; refine ⟨_, rfl, ?_⟩; have n0_ := Aside0.mk (hb); have n1_ := Aside0.mk (hi); clear HB; clear HI354; have HB := n0_; have HI354 := n1_; clear n0_ n1_; (try clear hb); (try clear hb2); (try clear hk); (try clear hi)))
  go_ret2
  exact ⟨by first | rfl | (simp [errW_none, errW_some] <;> rfl) | (simp [*, errW_none, errW_some] <;> rfl) | (simp [errW_none, errW_some]; exact ⟨rfl, rfl⟩), by repeat (first | (with_reducible first | exact HB.out | apply below_alloc | apply pw_below_drewN | apply below_drew1 | refine below_set ?_ (IsS64.ge HI354.out)) | exact HB.out)⟩

end Go.Proofs.Ytflfabdfkfigcaa.P

namespace Go.Proofs.Ytflfabdfkfigcaa.P
open Go.RowKit Go.Proofs.YtflfabdfkfigcaaW.PrintWords Go.Proofs.YtflfabdfkfigcaaW.PrintLast Go.Proofs.YtflfabdfkfigcaaW.PrintMore
attribute [local go_sem] max2_int min2_int max_two min_two max_three min_three max_four min_four   -- for this text's walks alone
set_option linter.unusedVariables false
set_option linter.unusedSimpArgs false

/-! ### spec_MakeUp: function 15 -/
def spec_MakeUp.f (k : Nat) (a0 : ByteArray) (a1 : Int) : Option (ByteArray × Bool) := (spec_l1Read.f k a0).bind fun bt359 => (if bt359.2.2 = true then ((spec_l6In.f a1 0 60).bind fun t367 => (if t367 = true then (if 0 ≤ a1 then (if (a1 : Int).toNat ≤ 281474976710656 then ((some (List.replicate (a1 : Int).toNat false : List Bool)).bind fun y368 => (if y368.length + bt359.1.length < 140737488355328 then ((spec_l1Done.f k (y368 ++ bt359.1) bt359.2.1).bind fun bt374 => (some (bt374.1, bt374.2))) else (none))) else (none)) else (none)) else (some ((⟨#[]⟩ : ByteArray), false)))) else (some ((⟨#[]⟩ : ByteArray), false)))
theorem spec_MakeUp.mono : ∀ a0 a1 k, LeO (spec_MakeUp.f k a0 a1) (spec_MakeUp.f (k + 1) a0 a1) := by
  intro a0 a1 k
  unfold spec_MakeUp.f
  repeat' first
      | (with_reducible exact spec_l1Done.mono _ _ _)
      | (with_reducible exact spec_l1Read.mono _ _)
      | (with_reducible exact LeO.refl _)
      | (with_reducible exact LeO.none _)
      | (with_reducible refine LeO.ite ?_ ?_)
      | (with_reducible refine LeO.bind ?_ (fun _ => ?_))
      | exact spec_l1Done.mono _ _ _
      | exact spec_l1Read.mono _ _
      | exact LeO.none _
      | refine LeO.ite ?_ ?_
      | refine LeO.bind ?_ (fun _ => ?_)
def spec_MakeUp.T4 : Bool × List (List Nat × List Nat) := (true, [([], []), ([0, 0], [0]), ([], []), ([2], [2]), ([1, 3], [1, 3]), ([], []), ([5], [5]), ([4, 6], [4, 6]), ([7, 4], [7]), ([8], [8]), ([8], [8]), ([9, 8, 0, 1, 2, 3, 4, 5, 6, 7, 8, 9, 10], [9]), ([10, 11, 0, 1, 2, 3, 4, 5, 6, 7, 8, 9, 10, 11], [10])])
def spec_MakeUp.B4 : List Nat := [0, 1, 0, 4, 15, 0, 32, 127, 255, 511, 511, 2047, 4095]
theorem spec_MakeUp.tab4 : rtab .any (opsOf Try.f15 4) = spec_MakeUp.T4 := by kernel_rfl
theorem spec_MakeUp.bits4 : waitsOk spec_MakeUp.T4.2 spec_MakeUp.B4 = true := by kernel_rfl
set_option maxHeartbeats 8000000 in
set_option maxRecDepth 100000 in
theorem spec_MakeUp.calls (k : Nat) (a0 : ByteArray) (a1 : Int) (r1 : ByteArray) (r2 : Bool) (w : World) (h : spec_MakeUp.f k a0 a1 = some (r1, r2)) :
    Calls Try.prog 15 #[.string a0, .int .i64 a1] w fun e w' => e = .returned (.tuple #[.string r1, .bool r2]) ∧ Below w.heap.size w w' := by
  have hu48 := Try.underlying48
  have HB := Aside0.mk (Below.refl w.heap.size w)
  have H : ((spec_l1Read.f k a0).bind fun bt359 => (if bt359.2.2 = true then ((spec_l6In.f a1 0 60).bind fun t367 => (if t367 = true then (if 0 ≤ a1 then (if (a1 : Int).toNat ≤ 281474976710656 then ((some (List.replicate (a1 : Int).toNat false : List Bool)).bind fun y368 => (if y368.length + bt359.1.length < 140737488355328 then ((spec_l1Done.f k (y368 ++ bt359.1) bt359.2.1).bind fun bt374 => (some (bt374.1, bt374.2))) else (none))) else (none)) else (none)) else (some ((⟨#[]⟩ : ByteArray), false)))) else (some ((⟨#[]⟩ : ByteArray), false)))) = some (r1, r2) := h
  clear h
  replace H := Option.bind_eq_some_iff.mp H
  obtain ⟨⟨t359, t362, t365⟩, A30, H⟩ := H
  replace H : (if t365 = true then ((spec_l6In.f a1 0 60).bind fun t367 => (if t367 = true then (if 0 ≤ a1 then (if (a1 : Int).toNat ≤ 281474976710656 then ((some (List.replicate (a1 : Int).toNat false : List Bool)).bind fun y368 => (if y368.length + t359.length < 140737488355328 then ((spec_l1Done.f k (y368 ++ t359) t362).bind fun bt374 => (some (bt374.1, bt374.2))) else (none))) else (none)) else (none)) else (some ((⟨#[]⟩ : ByteArray), false)))) else (some ((⟨#[]⟩ : ByteArray), false))) = some (r1, r2) := H
  have A3 := Aside0.mk A30
  clear A30
  by_cases c4 : t365 = true
  · subst c4
    have H1 : ((spec_l6In.f a1 0 60).bind fun t367 => (if t367 = true then (if 0 ≤ a1 then (if (a1 : Int).toNat ≤ 281474976710656 then ((some (List.replicate (a1 : Int).toNat false : List Bool)).bind fun y368 => (if y368.length + t359.length < 140737488355328 then ((spec_l1Done.f k (y368 ++ t359) t362).bind fun bt374 => (some (bt374.1, bt374.2))) else (none))) else (none)) else (none)) else (some ((⟨#[]⟩ : ByteArray), false)))) = some (r1, r2) := by rw [if_pos rfl] at H; exact H
    clear H
    have H := H1
    clear H1
    replace H := Option.bind_eq_some_iff.mp H
    obtain ⟨t367, A50, H⟩ := H
    replace H : (if t367 = true then (if 0 ≤ a1 then (if (a1 : Int).toNat ≤ 281474976710656 then ((some (List.replicate (a1 : Int).toNat false : List Bool)).bind fun y368 => (if y368.length + t359.length < 140737488355328 then ((spec_l1Done.f k (y368 ++ t359) t362).bind fun bt374 => (some (bt374.1, bt374.2))) else (none))) else (none)) else (none)) else (some ((⟨#[]⟩ : ByteArray), false))) = some (r1, r2) := H
    have A5 := Aside0.mk A50
    clear A50
    by_cases c6 : t367 = true
    · subst c6
      have H1 : (if 0 ≤ a1 then (if (a1 : Int).toNat ≤ 281474976710656 then ((some (List.replicate (a1 : Int).toNat false : List Bool)).bind fun y368 => (if y368.length + t359.length < 140737488355328 then ((spec_l1Done.f k (y368 ++ t359) t362).bind fun bt374 => (some (bt374.1, bt374.2))) else (none))) else (none)) else (none)) = some (r1, r2) := by rw [if_pos rfl] at H; exact H
      clear H
      have H := H1
      clear H1
      by_cases c7 : 0 ≤ a1
      · rw [if_pos c7] at H
        have c7b0 := eq_true c7
        have c7b1 : decide (0 ≤ a1) = true := decide_eq_true c7
        clear c7
        by_cases c8 : (a1 : Int).toNat ≤ 281474976710656
        · rw [if_pos c8] at H
          have c8b0 := eq_true c8
          have c8b1 : decide ((a1 : Int).toNat ≤ 281474976710656) = true := decide_eq_true c8
          clear c8
          obtain ⟨y368, hy368⟩ : ∃ y_ : List Bool, y_ = (List.replicate (a1 : Int).toNat false) := ⟨_, rfl⟩
          replace H : (if y368.length + t359.length < 140737488355328 then ((spec_l1Done.f k (y368 ++ t359) t362).bind fun bt374 => (some (bt374.1, bt374.2))) else (none)) = some (r1, r2) := by first | (rw [hy368]; with_reducible exact H) | (have H2_ := (Option.bind_some _ _).symm.trans H; rw [hy368]; with_reducible exact H2_) | (have H2_ := (Option.bind_some _ _).symm.trans H; with_reducible exact H2_) | with_reducible exact H | (rw [hy368]; exact H) | exact H
          have Ny368 := Aside0.mk hy368
          clear hy368
          by_cases c9 : y368.length + t359.length < 140737488355328
          · rw [if_pos c9] at H
            have LMc9 := Aside0.mk c9
            clear c9
            obtain ⟨y371, hy371⟩ : ∃ y_ : List Bool, y_ = (y368 ++ t359) := ⟨_, rfl⟩
            replace H : ((spec_l1Done.f k y371 t362).bind fun bt374 => (some (bt374.1, bt374.2))) = some (r1, r2) := by first | (rw [hy371]; with_reducible exact H) | (have H2_ := (Option.bind_some _ _).symm.trans H; rw [hy371]; with_reducible exact H2_) | (have H2_ := (Option.bind_some _ _).symm.trans H; with_reducible exact H2_) | with_reducible exact H | (rw [hy371]; exact H) | exact H
            have Ny371 := Aside0.mk hy371
            clear hy371
            replace H := Option.bind_eq_some_iff.mp H
            obtain ⟨⟨t374, t375⟩, A100, H⟩ := H
            replace H : (some (t374, t375)) = some (r1, r2) := H
            have A10 := Aside0.mk A100
            clear A100
            simp only [Option.some.injEq, Prod.mk.injEq] at H
            obtain ⟨rfl, rfl⟩ := H
            go_enter Try.func15, Try.ntmps15
            try go_wp2_with (first | ((with_reducible refine gate_callee (f := 38) rfl ?_); refine goesL_ (some 10) rfl rfl Try.func38 (by kernel_rfl) rfl #[.string a0] rfl (by (try simp only [List.map_toArray, List.map_cons, List.map_nil]); first | done | rfl | (simp only [List.length_drop, List.length_take]; rfl)) ?_; (with_reducible refine (spec_l1Read.calls k a0 t359 t362 true _ A3.out).mono ?_); rintro e w11 ⟨v360, v363, rfl, ho0, ho1, hb⟩; refine ⟨_, rfl, ?_⟩; have n0_ := Aside0.mk (Kd.R_lower ho0 (below_size (by repeat (first | (with_reducible first | exact HB.out | apply below_alloc | apply pw_below_drewN | apply below_drew1) | exact HB.out)))); have n1_ := Aside0.mk (Kd.R_lower ho1 (below_size (by repeat (first | (with_reducible first | exact HB.out | apply below_alloc | apply pw_below_drewN | apply below_drew1) | exact HB.out)))); have n2_ := Aside0.mk (below_step (by repeat (first | (with_reducible first | exact HB.out | apply below_alloc | apply pw_below_drewN | apply below_drew1) | exact HB.out)) hb); clear HB; have HO361 := n0_; have HO364 := n1_; have HB := n2_; clear n0_ n1_ n2_; (try clear hb); (try clear hb2); (try clear hk); (try clear hi); (try clear ho0); (try clear ho1)) | ((with_reducible refine gate_dst (N := 6) rfl ?_); refine box_event ?hg (N := 6) ?hd (cs := #[.slice none 0 0, .slice none 0 0]) (t := 48) ?hr ?_; (case hd => rfl); (case hg => rfl); (case hr => first | (go_simp; done) | (go_simp; rfl)); intro gb366 hg w12 hbox hb; have n0_ := Aside0.mk (Kd.R_below (by (with_reducible repeat (first | apply Kd.R_alloc | apply Kd.R_drewN | apply Kd.R_drew)); exact HO361.out) hb); have n1_ := Aside0.mk (Kd.R_below (by (with_reducible repeat (first | apply Kd.R_alloc | apply Kd.R_drewN | apply Kd.R_drew)); exact HO364.out) hb); have n2_ := Aside0.mk (below_step (by repeat (first | (with_reducible first | exact HB.out | apply below_alloc | apply pw_below_drewN | apply below_drew1) | exact HB.out)) hb); have n3_ := Aside0.mk (hbox); have n4_ := Aside0.mk ((by rw [hg]; exact (below_size (by repeat (first | (with_reducible first | exact HB.out | apply below_alloc | apply pw_below_drewN | apply below_drew1) | exact HB.out))) : w.heap.size ≤ gb366)); have n5_ := Aside0.mk ((by rw [hg]; exact (below_size (by repeat (first | (with_reducible first | exact HB.out | apply below_alloc | apply pw_below_drewN | apply below_drew1) | exact HB.out))) : w.heap.size ≤ gb366)); clear HO361; clear HO364; clear HB; have HO361 := n0_; have HO364 := n1_; have HB := n2_; have BK366 := n3_; have GW366 := n4_; have GE366 := n5_; clear n0_ n1_ n2_ n3_ n4_ n5_; clear hb hbox hg; obtain ⟨Ao13, co13, eo13⟩ := Kd.R_slice HO361.out; subst eo13; have hcz14_0 : w12.cell? ⟨gb366, 0, none⟩ = some (.slice none 0 0) := (blk_cell BK366.out 0).trans rfl; have hcz14_1 : w12.cell? ⟨gb366, 1, none⟩ = some (.slice none 0 0) := (blk_cell BK366.out 1).trans rfl; have hfz14_0 := blk_frozen BK366.out 0; have hfz14_1 := blk_frozen BK366.out 1; obtain ⟨Ao15, co15, eo15⟩ := Kd.R_slice HO364.out; subst eo15) | (go_at_call 39; (with_reducible refine (spec_l6In.calls a1 0 60 true _ A5.out).mono ?_); rintro e w' ⟨rfl, ⟨nd, rfl⟩⟩))
            have n0_ : Aside0 (Kd.R Kd.bool 4 ((w12.setCell ⟨gb366, 0, none⟩ (.slice Ao13 t359.length co13)).setCell ⟨gb366, 1, none⟩ (.slice Ao15 t362.length co15)) w.heap.size (fun k_ => some k_ ≠ (.slice Ao15 t362.length co15 : Value).ownBlock) (.slice Ao13 t359.length co13) t359) := ⟨by (with_reducible repeat (first | apply Kd.R_alloc | apply Kd.R_drewN | apply Kd.R_drew)); exact Kd.R_mono (Kd.R_far (p := ⟨gb366, 1, none⟩) (Kd.R_far (p := ⟨gb366, 0, none⟩) (Kd.R_types HO361.out BK366.out (by decide)) (fun _ hk => hk.2) (.slice Ao13 t359.length co13)) (fun _ hk => hk.2) (.slice Ao15 t362.length co15)) (fun _ hk => hk.1)⟩
            have n1_ : Aside0 (Kd.R Kd.bool 4 ((w12.setCell ⟨gb366, 0, none⟩ (.slice Ao13 t359.length co13)).setCell ⟨gb366, 1, none⟩ (.slice Ao15 t362.length co15)) w.heap.size (fun k_ => some k_ ≠ (.slice Ao13 t359.length co13 : Value).ownBlock) (.slice Ao15 t362.length co15) t362) := ⟨by (with_reducible repeat (first | apply Kd.R_alloc | apply Kd.R_drewN | apply Kd.R_drew)); exact Kd.R_mono (Kd.R_far (p := ⟨gb366, 1, none⟩) (Kd.R_far (p := ⟨gb366, 0, none⟩) (Kd.R_types HO364.out BK366.out (by decide)) (fun _ hk => hk.2) (.slice Ao13 t359.length co13)) (fun _ hk => hk.2) (.slice Ao15 t362.length co15)) (fun _ hk => hk.1)⟩
            have n2_ : Aside0 (((w12.setCell ⟨gb366, 0, none⟩ (.slice Ao13 t359.length co13)).setCell ⟨gb366, 1, none⟩ (.slice Ao15 t362.length co15)).heap[gb366]? = some (.cells #[.slice Ao13 t359.length co13, .slice Ao15 t362.length co15] 48 (0, 0))) := ⟨by (with_reducible repeat (first | refine blk_drewN ?_ _ | refine blk_drew ?_ | refine blk_alloc ?_ _)); refine blk_put (cs := #[.slice Ao13 t359.length co13, .slice none 0 0]) ?_ 1 _ rfl; (with_reducible repeat (first | refine blk_drewN ?_ _ | refine blk_drew ?_ | refine blk_alloc ?_ _)); refine blk_put (cs := #[.slice none 0 0, .slice none 0 0]) ?_ 0 _ rfl; (with_reducible repeat (first | refine blk_drewN ?_ _ | refine blk_drew ?_ | refine blk_alloc ?_ _)); exact BK366.out⟩
            have n3_ : Aside0 (Below w.heap.size w ((w12.setCell ⟨gb366, 0, none⟩ (.slice Ao13 t359.length co13)).setCell ⟨gb366, 1, none⟩ (.slice Ao15 t362.length co15))) := ⟨by repeat (first | (with_reducible first | exact HB.out | apply below_alloc | apply pw_below_drewN | apply below_drew1 | refine below_set ?_ GE366.out) | exact HB.out)⟩
            (try clear HO361)
            (try clear HO364)
            (try clear BK366)
            (try clear HB)
            generalize ((w12.setCell ⟨gb366, 0, none⟩ (.slice Ao13 t359.length co13)).setCell ⟨gb366, 1, none⟩ (.slice Ao15 t362.length co15)) = w16 at n0_ n1_ n2_ n3_ ⊢
            have HO361 := n0_
            have HO364 := n1_
            have BK366 := n2_
            have HB := n3_
            clear n0_ n1_ n2_ n3_
            (try (rw [drewN_self w16]; generalize hq_ : World.drewN w16 _ = w16; have n0_ : Aside0 (Kd.R Kd.bool 4 w16 w.heap.size (fun k_ => some k_ ≠ (.slice Ao15 t362.length co15 : Value).ownBlock) (.slice Ao13 t359.length co13) t359) := ⟨by rw [← hq_]; exact (by (with_reducible repeat (first | apply Kd.R_alloc | apply Kd.R_drewN | apply Kd.R_drew)); exact HO361.out)⟩; have n1_ : Aside0 (Kd.R Kd.bool 4 w16 w.heap.size (fun k_ => some k_ ≠ (.slice Ao13 t359.length co13 : Value).ownBlock) (.slice Ao15 t362.length co15) t362) := ⟨by rw [← hq_]; exact (by (with_reducible repeat (first | apply Kd.R_alloc | apply Kd.R_drewN | apply Kd.R_drew)); exact HO364.out)⟩; have n2_ : Aside0 (w16.heap[gb366]? = some (.cells #[.slice Ao13 t359.length co13, .slice Ao15 t362.length co15] 48 (0, 0))) := ⟨by rw [← hq_]; exact (by (with_reducible repeat (first | refine blk_drewN ?_ _ | refine blk_drew ?_ | refine blk_alloc ?_ _)); exact BK366.out)⟩; have n3_ : Aside0 (Below w.heap.size w w16) := ⟨by rw [← hq_]; exact (by repeat (first | (with_reducible first | exact HB.out | apply below_alloc | apply pw_below_drewN | apply below_drew1 | refine below_set ?_ GE366.out) | exact HB.out))⟩; clear HO361 HO364 BK366 HB hq_; have HO361 := n0_; have HO364 := n1_; have BK366 := n2_; have HB := n3_; clear n0_ n1_ n2_ n3_))
            have n0_ := Aside0.mk (Kd.R_drew HO361.out)
            have n1_ := Aside0.mk (Kd.R_drew HO364.out)
            have n2_ := Aside0.mk (blk_drew BK366.out)
            have n3_ := Aside0.mk (below_drew1 HB.out)
            clear HO361
            clear HO364
            clear BK366
            clear HB
            have HO361 := n0_
            have HO364 := n1_
            have BK366 := n2_
            have HB := n3_
            clear n0_ n1_ n2_ n3_
            refine start_ (n := 13) (S := fun w' => w'.cell? ⟨gb366, 0, none⟩ = some (.slice Ao13 t359.length co13) ∧ w'.cell? ⟨gb366, 1, none⟩ = some (.slice Ao15 t362.length co15)) (ds := []) #[false, false, false, false, false, false, false, false, false, false, false, false, false] (by kernel_rfl) rfl rfl ⟨(blk_cell BK366.out 0).trans rfl, (blk_cell BK366.out 1).trans rfl⟩ (fun hHeld => ?_); refine with_tabW spec_MakeUp.tab4 spec_MakeUp.bits4 (fun HT_ HW_ => ?_)
            generalize w16.drew = w17 at HO361 HO364 BK366 HB hHeld ⊢
            refine pure_ (i := 0) (N := some 20) (v := ?_) (a' := ?_) #[true, false, false, false, false, false, false, false, false, false, false, false, false] rfl rfl (any_of HT_.out (by kernel_rfl)) (fun _ _ _ h => h) (Or.inl ⟨by rfl, ?_⟩) ?_ ?_
            rotate_left
            · intro w'
              go_simp
              with_reducible rfl
            rotate_left
            · simp only [Act.put, List.setIfInBounds_toArray, List.set_cons_zero, List.set_cons_succ, i64_w, i32_w]
              rfl
            refine pure_ (i := 2) (N := some 22) (v := ?_) (a' := ?_) #[true, false, true, false, false, false, false, false, false, false, false, false, false] rfl rfl (any_of HT_.out (by kernel_rfl)) (fun _ _ _ h => h) (Or.inl ⟨by rfl, ?_⟩) ?_ ?_
            rotate_left
            · intro w'
              go_simp
              with_reducible rfl
            rotate_left
            · simp only [Act.put, List.setIfInBounds_toArray, List.set_cons_zero, List.set_cons_succ, i64_w, i32_w]
              rfl
            refine pure_ (i := 5) (N := some 25) (v := ?_) (a' := ?_) #[true, false, true, false, false, true, false, false, false, false, false, false, false] rfl rfl (any_of HT_.out (by kernel_rfl)) (fun _ _ _ h => h) (Or.inl ⟨by rfl, ?_⟩) ?_ ?_
            rotate_left
            · intro w'
              go_simp
              with_reducible rfl
            rotate_left
            · simp only [Act.put, List.setIfInBounds_toArray, List.set_cons_zero, List.set_cons_succ, i64_w, i32_w]
              rfl
            refine take_ (i := 3) (N := some 23) (v := ?_) (a' := ?_) #[true, false, true, true, false, true, false, false, false, false, false, false, false] rfl rfl (take_ofW HT_.out HW_.out (by kernel_rfl)) (fun _ _ _ h => h) (Or.inl ⟨by rfl, ?_⟩) hHeld ?_ ?_
            rotate_left
            · rintro w' ⟨s0, s1⟩
              go_simp
              with_reducible rfl
            rotate_left
            · simp only [Act.put, List.setIfInBounds_toArray, List.set_cons_zero, List.set_cons_succ, i64_w, i32_w]
              rfl
            refine take_ (i := 6) (N := some 26) (v := ?_) (a' := ?_) #[true, false, true, true, false, true, true, false, false, false, false, false, false] rfl rfl (take_ofW HT_.out HW_.out (by kernel_rfl)) (fun _ _ _ h => h) (Or.inl ⟨by rfl, ?_⟩) hHeld ?_ ?_
            rotate_left
            · rintro w' ⟨s0, s1⟩
              go_simp
              with_reducible rfl
            rotate_left
            · simp only [Act.put, List.setIfInBounds_toArray, List.set_cons_zero, List.set_cons_succ, i64_w, i32_w]
              rfl
            refine one_ (i := 1) (N := some 21) #[true, true, true, true, false, true, true, false, false, false, false, false, false] rfl rfl (one_of HT_.out (by kernel_rfl)) (by decide) (fun K hK => ?_)
            refine Kd.R_make_step Kd.bool _ 4 (by rfl) (N := 21) rfl 42 _ _ rfl a1 rfl rfl Try.underlying42 (.bool false) 1 info4 rfl (by decide) (by omega) false (ok := fun _ => True) (okp := fun _ => True) rfl (fun _ hk => hk) trivial (of_decide_eq_true (by first | (with_reducible assumption) | assumption)) (Nat.le_trans (Nat.mul_le_mul_right _ (of_decide_eq_true (by first | (with_reducible assumption) | assumption) : a1.toNat ≤ 281474976710656)) (by omega)) (Below.refl _ _) (Nat.le_refl _) ?_
            intro v369 w18 ho19 hb hg_ hnew_
            clear hg_ hnew_
            (first | rw [← Ny368.out] at ho19 | (simp only [Int.reduceToNat] at ho19; rw [← Ny368.out] at ho19))
            have n0_ := Aside0.mk (Kd.R_elder' (by (with_reducible repeat (first | apply Kd.R_alloc | apply Kd.R_drewN | apply Kd.R_drew)); exact HO361.out) (Kd.R_base ho19) hb)
            have n1_ := Aside0.mk (Kd.R_elder' (by (with_reducible repeat (first | apply Kd.R_alloc | apply Kd.R_drewN | apply Kd.R_drew)); exact HO364.out) (Kd.R_base ho19) hb)
            have n2_ := Aside0.mk (Kd.R_lower (Kd.R_new' (Kd.R_new' ho19 (Kd.R_lt (by (with_reducible repeat (first | apply Kd.R_alloc | apply Kd.R_drewN | apply Kd.R_drew)); exact HO361.out))) (Kd.R_lt (by (with_reducible repeat (first | apply Kd.R_alloc | apply Kd.R_drewN | apply Kd.R_drew)); exact HO364.out))) (below_size (by repeat (first | (with_reducible first | exact HB.out | apply below_alloc | apply pw_below_drewN | apply below_drew1 | refine below_set ?_ GE366.out) | exact HB.out))))
            have n3_ := Aside0.mk (blk_below (g := gb366) (o := .cells #[.slice Ao13 t359.length co13, .slice Ao15 t362.length co15] 48 (0, 0)) (by (with_reducible repeat (first | refine blk_drewN ?_ _ | refine blk_drew ?_ | refine blk_alloc ?_ _)); exact BK366.out) hb)
            have n4_ := Aside0.mk (below_step (by repeat (first | (with_reducible first | exact HB.out | apply below_alloc | apply pw_below_drewN | apply below_drew1 | refine below_set ?_ GE366.out) | exact HB.out)) hb)
            clear HO361
            clear HO364
            clear BK366
            clear HB
            have HO361 := n0_
            have HO364 := n1_
            have HO370 := n2_
            have BK366 := n3_
            have HB := n4_
            clear n0_ n1_ n2_ n3_ n4_
            clear hb ho19
            refine hK.out _ _ ⟨(blk_cell BK366.out 0).trans rfl, (blk_cell BK366.out 1).trans rfl⟩ (fun hHeld => ?_)
            clear hK K
            refine norm_ (a' := ?_) ?_ ?_
            rotate_left
            · show Act.put _ (some 21) _ = _
              simp only [Act.put, List.setIfInBounds_toArray, List.set_cons_zero, List.set_cons_succ, i64_w, i32_w]
              rfl
            refine one_ (i := 4) (N := some 24) #[true, true, true, true, true, true, true, false, false, false, false, false, false] rfl rfl (one_of HT_.out (by kernel_rfl)) (by decide) (fun K hK => ?_)
            refine Kd.R_append_rows_step Kd.bool (w0 := w) w.heap.size (by rfl) (.tmp 21) (.tmp 23) 42 4 (.bool false) 1 rfl Try.underlying42 info4 rfl (by decide) (by omega) v369 y368 t359 _ _ _ (fun k_ => some k_ ≠ (.slice Ao13 t359.length co13 : Value).ownBlock ∧ some k_ ≠ (.slice Ao15 t362.length co15 : Value).ownBlock) (fun _ => False) rfl rfl ?aO ?aR (fun _ _ h => h) (fun _ h => h.elim) ?aF ?aB ?aS ?aL ?_
            (case aR => repeat (first | exact (Kd.R_reads' HO361.out).2.2 | (with_reducible refine Kd.C_alloc ?_ _) | (with_reducible refine Kd.C_drewN ?_ _) | (with_reducible refine Kd.C_drew ?_)))
            (case aB => exact (by repeat (first | (with_reducible first | exact HB.out | apply below_alloc | apply pw_below_drewN | apply below_drew1 | refine below_set ?_ GE366.out) | exact HB.out)))
            (case aF => exact (fun k_ hk => ⟨Kd.fresh' (Kd.R_lt (by (with_reducible repeat (first | apply Kd.R_alloc | apply Kd.R_drewN | apply Kd.R_drew)); exact HO361.out)) k_ hk, Kd.fresh' (Kd.R_lt (by (with_reducible repeat (first | apply Kd.R_alloc | apply Kd.R_drewN | apply Kd.R_drew)); exact HO364.out)) k_ hk⟩))
            (case aO => exact (by (with_reducible repeat (first | apply Kd.R_alloc | apply Kd.R_drewN | apply Kd.R_drew)); exact Kd.R_mono HO370.out (fun _ hk => ⟨hk.1.2, hk.2⟩)))
            (case aS => exact (below_size (by repeat (first | (with_reducible first | exact HB.out | apply below_alloc | apply pw_below_drewN | apply below_drew1 | refine below_set ?_ GE366.out) | exact HB.out))))
            (case aL => have := LMc9.out; omega)
            intro v372 w20 ho hb hg hat
            rw [← Ny371.out] at ho
            have n0_ := Aside0.mk (Kd.R_after (ok := (fun k_ => some k_ ≠ (.slice Ao15 t362.length co15 : Value).ownBlock)) (by (with_reducible repeat (first | apply Kd.R_alloc | apply Kd.R_drewN | apply Kd.R_drew)); exact HO361.out) hg hat)
            have n1_ := Aside0.mk (Kd.R_after (ok := (fun k_ => some k_ ≠ (.slice Ao13 t359.length co13 : Value).ownBlock)) (by (with_reducible repeat (first | apply Kd.R_alloc | apply Kd.R_drewN | apply Kd.R_drew)); exact HO364.out) hg hat)
            have n2_ := Aside0.mk (blk_grown (g := gb366) (o := .cells #[.slice Ao13 t359.length co13, .slice Ao15 t362.length co15] 48 (0, 0)) (by (with_reducible repeat (first | refine blk_drewN ?_ _ | refine blk_drew ?_ | refine blk_alloc ?_ _)); exact BK366.out) hg (Kd.R_ne HO370.out BK366.out (by decide)))
            have n3_ := Aside0.mk (hb)
            have n4_ := Aside0.mk (ho)
            clear HO361
            clear HO364
            clear BK366
            clear HB
            clear HO370
            have HO361 := n0_
            have HO364 := n1_
            have BK366 := n2_
            have HB := n3_
            have HO373 := n4_
            clear n0_ n1_ n2_ n3_ n4_
            clear ho hb hg hat
            obtain ⟨Ao21, co21, eo21⟩ := Kd.R_slice HO373.out
            (first | subst eo21 | (injection eo21 with f1_ f2_ f3_; have f4_ := f1_.symm; have f5_ := f3_.symm; clear f1_ f2_ f3_; subst f4_; subst f5_))
            refine hK.out _ _ ⟨(blk_cell BK366.out 0).trans rfl, (blk_cell BK366.out 1).trans rfl⟩ (fun hHeld => ?_)
            clear hK K
            refine norm_ (a' := ?_) ?_ ?_
            rotate_left
            · show Act.put _ (some 24) _ = _
              simp only [Act.put, List.setIfInBounds_toArray, List.set_cons_zero, List.set_cons_succ, i64_w, i32_w]
              rfl
            refine pure_ (i := 7) (N := some 27) (v := ?_) (a' := ?_) #[true, true, true, true, true, true, true, true, false, false, false, false, false] rfl rfl (any_of HT_.out (by kernel_rfl)) (fun _ _ _ h => h) (Or.inl ⟨by rfl, ?_⟩) ?_ ?_
            rotate_left
            · intro w'
              go_simp
              with_reducible rfl
            rotate_left
            · simp only [Act.put, List.setIfInBounds_toArray, List.set_cons_zero, List.set_cons_succ, i64_w, i32_w]
              rfl
            refine one_ (i := 8) (N := some 28) #[true, true, true, true, true, true, true, true, true, false, false, false, false] rfl rfl (one_of HT_.out (by kernel_rfl)) (by decide) (fun K hK => ?_)
            refine goes_ Try.func45 (by kernel_rfl) rfl #[.agg #[.slice Ao21 y371.length co21, .slice Ao15 t362.length co15]] (by rfl) rfl rfl (by (try simp only [List.map_toArray, List.map_cons, List.map_nil]); first | done | rfl | (simp only [List.length_drop, List.length_take]; rfl)) ?_
            with_reducible refine (spec_l1Done.calls k _ _ y371 _ _ t362 t374 t375 _ ?side1 ?side2 ?side3 ?side4 A10.out).mono ?_
            (case side1 => repeat (first | exact (Kd.R_reads' HO373.out).2.2 | (with_reducible refine Kd.C_alloc ?_ _) | (with_reducible refine Kd.C_drewN ?_ _) | (with_reducible refine Kd.C_drew ?_)))
            (case side2 => exact (Kd.R_reads' HO373.out).2.1)
            (case side3 => repeat (first | exact (Kd.R_reads' HO364.out).2.2 | (with_reducible refine Kd.C_alloc ?_ _) | (with_reducible refine Kd.C_drewN ?_ _) | (with_reducible refine Kd.C_drew ?_)))
            (case side4 => exact (Kd.R_reads' HO364.out).2.1)
            rintro e w22 ⟨rfl, hb⟩
            refine ⟨_, rfl, ?_⟩
            have n0_ := Aside0.mk (Kd.R_below (by (with_reducible repeat (first | apply Kd.R_alloc | apply Kd.R_drewN | apply Kd.R_drew)); exact HO361.out) hb)
            have n1_ := Aside0.mk (Kd.R_below (by (with_reducible repeat (first | apply Kd.R_alloc | apply Kd.R_drewN | apply Kd.R_drew)); exact HO364.out) hb)
            have n2_ := Aside0.mk (Kd.R_below (by (with_reducible repeat (first | apply Kd.R_alloc | apply Kd.R_drewN | apply Kd.R_drew)); exact HO373.out) hb)
            have n3_ := Aside0.mk (blk_below (g := gb366) (o := .cells #[.slice Ao13 t359.length co13, .slice Ao15 t362.length co15] 48 (0, 0)) (by (with_reducible repeat (first | refine blk_drewN ?_ _ | refine blk_drew ?_ | refine blk_alloc ?_ _)); exact BK366.out) hb)
            have n4_ := Aside0.mk (below_step (by repeat (first | (with_reducible first | exact HB.out | apply below_alloc | apply pw_below_drewN | apply below_drew1 | refine below_set ?_ GE366.out) | exact HB.out)) hb)
            clear HO361
            clear HO364
            clear HO373
            clear BK366
            clear HB
            have HO361 := n0_
            have HO364 := n1_
            have HO373 := n2_
            have BK366 := n3_
            have HB := n4_
            clear n0_ n1_ n2_ n3_ n4_
            (try clear hb)
            (try clear hb2)
            (try clear hk)
            (try clear hi)
            refine hK.out _ _ ⟨(blk_cell BK366.out 0).trans rfl, (blk_cell BK366.out 1).trans rfl⟩ (fun hHeld => ?_)
            clear hK K
            refine norm_ (a' := ?_) ?_ ?_
            rotate_left
            · show Act.put _ (some 28) _ = _
              simp only [Act.put, List.setIfInBounds_toArray, List.set_cons_zero, List.set_cons_succ, i64_w, i32_w]
              rfl
            refine pure_ (i := 9) (N := some 29) (v := ?_) (a' := ?_) #[true, true, true, true, true, true, true, true, true, true, false, false, false] rfl rfl (any_of HT_.out (by kernel_rfl)) (fun _ _ _ h => h) (Or.inl ⟨by rfl, ?_⟩) ?_ ?_
            rotate_left
            · intro w'
              go_simp
              with_reducible rfl
            rotate_left
            · simp only [Act.put, List.setIfInBounds_toArray, List.set_cons_zero, List.set_cons_succ, i64_w, i32_w]
              rfl
            refine pure_ (i := 10) (N := some 30) (v := ?_) (a' := ?_) #[true, true, true, true, true, true, true, true, true, true, true, false, false] rfl rfl (any_of HT_.out (by kernel_rfl)) (fun _ _ _ h => h) (Or.inl ⟨by rfl, ?_⟩) ?_ ?_
            rotate_left
            · intro w'
              go_simp
              with_reducible rfl
            rotate_left
            · simp only [Act.put, List.setIfInBounds_toArray, List.set_cons_zero, List.set_cons_succ, i64_w, i32_w]
              rfl
            refine pure_ (i := 11) (N := some 4) (v := ?_) (a' := ?_) #[true, true, true, true, true, true, true, true, true, true, true, true, false] rfl rfl (any_of HT_.out (by kernel_rfl)) (fun _ _ _ h => h) (Or.inl ⟨by rfl, ?_⟩) ?_ ?_
            rotate_left
            · intro w'
              go_simp
              with_reducible rfl
            rotate_left
            · simp only [Act.put, List.setIfInBounds_toArray, List.set_cons_zero, List.set_cons_succ, i64_w, i32_w]
              rfl
            refine pure_ (i := 12) (N := some 5) (v := ?_) (a' := ?_) #[true, true, true, true, true, true, true, true, true, true, true, true, true] rfl rfl (any_of HT_.out (by kernel_rfl)) (fun _ _ _ h => h) (Or.inl ⟨by rfl, ?_⟩) ?_ ?_
            rotate_left
            · intro w'
              go_simp
              with_reducible rfl
            rotate_left
            · simp only [Act.put, List.setIfInBounds_toArray, List.set_cons_zero, List.set_cons_succ, i64_w, i32_w]
              rfl
            refine done_ (done_of HT_.out (by kernel_rfl)) ?_
            try go_wp2
            go_ret2
            exact ⟨by first | rfl | (simp [errW_none, errW_some] <;> rfl) | (simp [*, errW_none, errW_some] <;> rfl) | (simp [errW_none, errW_some]; exact ⟨rfl, rfl⟩), by repeat (first | (with_reducible first | exact HB.out | apply below_alloc | apply pw_below_drewN | apply below_drew1 | refine below_set ?_ GE366.out) | exact HB.out)⟩
          · rw [if_neg c9] at H
            exact absurd H (by simp)
        · rw [if_neg c8] at H
          exact absurd H (by simp)
      · rw [if_neg c7] at H
        exact absurd H (by simp)
    · replace c6 := Bool.eq_false_iff.mpr c6
      subst c6
      have H1 : (some ((⟨#[]⟩ : ByteArray), false)) = some (r1, r2) := by rw [if_neg (show ¬ (false = true) by decide)] at H; exact H
      clear H
      have H := H1
      clear H1
      simp only [Option.some.injEq, Prod.mk.injEq] at H
      obtain ⟨rfl, rfl⟩ := H
      go_enter Try.func15, Try.ntmps15
      go_wp2_with (first | ((with_reducible refine gate_callee (f := 38) rfl ?_); refine goesL_ (some 10) rfl rfl Try.func38 (by kernel_rfl) rfl #[.string a0] rfl (by (try simp only [List.map_toArray, List.map_cons, List.map_nil]); first | done | rfl | (simp only [List.length_drop, List.length_take]; rfl)) ?_; (with_reducible refine (spec_l1Read.calls k a0 t359 t362 true _ A3.out).mono ?_); rintro e w23 ⟨v360, v363, rfl, ho0, ho1, hb⟩; refine ⟨_, rfl, ?_⟩; have n0_ := Aside0.mk (Kd.R_lower ho0 (below_size (by repeat (first | (with_reducible first | exact HB.out | apply below_alloc | apply pw_below_drewN | apply below_drew1) | exact HB.out)))); have n1_ := Aside0.mk (Kd.R_lower ho1 (below_size (by repeat (first | (with_reducible first | exact HB.out | apply below_alloc | apply pw_below_drewN | apply below_drew1) | exact HB.out)))); have n2_ := Aside0.mk (below_step (by repeat (first | (with_reducible first | exact HB.out | apply below_alloc | apply pw_below_drewN | apply below_drew1) | exact HB.out)) hb); clear HB; have HO361 := n0_; have HO364 := n1_; have HB := n2_; clear n0_ n1_ n2_; (try clear hb); (try clear hb2); (try clear hk); (try clear hi); (try clear ho0); (try clear ho1)) | ((with_reducible refine gate_dst (N := 6) rfl ?_); refine box_event ?hg (N := 6) ?hd (cs := #[.slice none 0 0, .slice none 0 0]) (t := 48) ?hr ?_; (case hd => rfl); (case hg => rfl); (case hr => first | (go_simp; done) | (go_simp; rfl)); intro gb366 hg w24 hbox hb; have n0_ := Aside0.mk (Kd.R_below (by (with_reducible repeat (first | apply Kd.R_alloc | apply Kd.R_drewN | apply Kd.R_drew)); exact HO361.out) hb); have n1_ := Aside0.mk (Kd.R_below (by (with_reducible repeat (first | apply Kd.R_alloc | apply Kd.R_drewN | apply Kd.R_drew)); exact HO364.out) hb); have n2_ := Aside0.mk (below_step (by repeat (first | (with_reducible first | exact HB.out | apply below_alloc | apply pw_below_drewN | apply below_drew1) | exact HB.out)) hb); have n3_ := Aside0.mk (hbox); have n4_ := Aside0.mk ((by rw [hg]; exact (below_size (by repeat (first | (with_reducible first | exact HB.out | apply below_alloc | apply pw_below_drewN | apply below_drew1) | exact HB.out))) : w.heap.size ≤ gb366)); have n5_ := Aside0.mk ((by rw [hg]; exact (below_size (by repeat (first | (with_reducible first | exact HB.out | apply below_alloc | apply pw_below_drewN | apply below_drew1) | exact HB.out))) : w.heap.size ≤ gb366)); clear HO361; clear HO364; clear HB; have HO361 := n0_; have HO364 := n1_; have HB := n2_; have BK366 := n3_; have GW366 := n4_; have GE366 := n5_; clear n0_ n1_ n2_ n3_ n4_ n5_; clear hb hbox hg; obtain ⟨Ao25, co25, eo25⟩ := Kd.R_slice HO361.out; subst eo25; have hcz26_0 : w24.cell? ⟨gb366, 0, none⟩ = some (.slice none 0 0) := (blk_cell BK366.out 0).trans rfl; have hcz26_1 : w24.cell? ⟨gb366, 1, none⟩ = some (.slice none 0 0) := (blk_cell BK366.out 1).trans rfl; have hfz26_0 := blk_frozen BK366.out 0; have hfz26_1 := blk_frozen BK366.out 1; obtain ⟨Ao27, co27, eo27⟩ := Kd.R_slice HO364.out; subst eo27) | (go_at_call 39; (with_reducible refine (spec_l6In.calls a1 0 60 false _ A5.out).mono ?_); rintro e w' ⟨rfl, ⟨nd, rfl⟩⟩))
      go_ret2
      exact ⟨by first | rfl | (simp [errW_none, errW_some] <;> rfl) | (simp [*, errW_none, errW_some] <;> rfl) | (simp [errW_none, errW_some]; exact ⟨rfl, rfl⟩), by repeat (first | (with_reducible first | exact HB.out | apply below_alloc | apply pw_below_drewN | apply below_drew1 | refine below_set ?_ GE366.out) | exact HB.out)⟩
  · replace c4 := Bool.eq_false_iff.mpr c4
    subst c4
    have H1 : (some ((⟨#[]⟩ : ByteArray), false)) = some (r1, r2) := by rw [if_neg (show ¬ (false = true) by decide)] at H; exact H
    clear H
    have H := H1
    clear H1
    simp only [Option.some.injEq, Prod.mk.injEq] at H
    obtain ⟨rfl, rfl⟩ := H
    go_enter Try.func15, Try.ntmps15
    go_wp2_with (first | ((with_reducible refine gate_callee (f := 38) rfl ?_); refine goesL_ (some 10) rfl rfl Try.func38 (by kernel_rfl) rfl #[.string a0] rfl (by (try simp only [List.map_toArray, List.map_cons, List.map_nil]); first | done | rfl | (simp only [List.length_drop, List.length_take]; rfl)) ?_; (with_reducible refine (spec_l1Read.calls k a0 t359 t362 false _ A3.out).mono ?_); rintro e w28 ⟨v360, v363, rfl, ho0, ho1, hb⟩; refine ⟨_, rfl, ?_⟩; have n0_ := Aside0.mk (Kd.R_lower ho0 (below_size (by repeat (first | (with_reducible first | exact HB.out | apply below_alloc | apply pw_below_drewN | apply below_drew1) | exact HB.out)))); have n1_ := Aside0.mk (Kd.R_lower ho1 (below_size (by repeat (first | (with_reducible first | exact HB.out | apply below_alloc | apply pw_below_drewN | apply below_drew1) | exact HB.out)))); have n2_ := Aside0.mk (below_step (by repeat (first | (with_reducible first | exact HB.out | apply below_alloc | apply pw_below_drewN | apply below_drew1) | exact HB.out)) hb); clear HB; have HO361 := n0_; have HO364 := n1_; have HB := n2_; clear n0_ n1_ n2_; (try clear hb); (try clear hb2); (try clear hk); (try clear hi); (try clear ho0); (try clear ho1)) | ((with_reducible refine gate_dst (N := 6) rfl ?_); refine box_event ?hg (N := 6) ?hd (cs := #[.slice none 0 0, .slice none 0 0]) (t := 48) ?hr ?_; (case hd => rfl); (case hg => rfl); (case hr => first | (go_simp; done) | (go_simp; rfl)); intro gb366 hg w29 hbox hb; have n0_ := Aside0.mk (Kd.R_below (by (with_reducible repeat (first | apply Kd.R_alloc | apply Kd.R_drewN | apply Kd.R_drew)); exact HO361.out) hb); have n1_ := Aside0.mk (Kd.R_below (by (with_reducible repeat (first | apply Kd.R_alloc | apply Kd.R_drewN | apply Kd.R_drew)); exact HO364.out) hb); have n2_ := Aside0.mk (below_step (by repeat (first | (with_reducible first | exact HB.out | apply below_alloc | apply pw_below_drewN | apply below_drew1) | exact HB.out)) hb); have n3_ := Aside0.mk (hbox); have n4_ := Aside0.mk ((by rw [hg]; exact (below_size (by repeat (first | (with_reducible first | exact HB.out | apply below_alloc | apply pw_below_drewN | apply below_drew1) | exact HB.out))) : w.heap.size ≤ gb366)); have n5_ := Aside0.mk ((by rw [hg]; exact (below_size (by repeat (first | (with_reducible first | exact HB.out | apply below_alloc | apply pw_below_drewN | apply below_drew1) | exact HB.out))) : w.heap.size ≤ gb366)); clear HO361; clear HO364; clear HB; have HO361 := n0_; have HO364 := n1_; have HB := n2_; have BK366 := n3_; have GW366 := n4_; have GE366 := n5_; clear n0_ n1_ n2_ n3_ n4_ n5_; clear hb hbox hg; obtain ⟨Ao30, co30, eo30⟩ := Kd.R_slice HO361.out; subst eo30; have hcz31_0 : w29.cell? ⟨gb366, 0, none⟩ = some (.slice none 0 0) := (blk_cell BK366.out 0).trans rfl; have hcz31_1 : w29.cell? ⟨gb366, 1, none⟩ = some (.slice none 0 0) := (blk_cell BK366.out 1).trans rfl; have hfz31_0 := blk_frozen BK366.out 0; have hfz31_1 := blk_frozen BK366.out 1; obtain ⟨Ao32, co32, eo32⟩ := Kd.R_slice HO364.out; subst eo32))
    go_ret2
    exact ⟨by first | rfl | (simp [errW_none, errW_some] <;> rfl) | (simp [*, errW_none, errW_some] <;> rfl) | (simp [errW_none, errW_some]; exact ⟨rfl, rfl⟩), by repeat (first | (with_reducible first | exact HB.out | apply below_alloc | apply pw_below_drewN | apply below_drew1 | refine below_set ?_ GE366.out) | exact HB.out)⟩

end Go.Proofs.Ytflfabdfkfigcaa.P

namespace Go.Proofs.Ytflfabdfkfigcaa.P
open Go.RowKit Go.Proofs.YtflfabdfkfigcaaW.PrintWords Go.Proofs.YtflfabdfkfigcaaW.PrintLast Go.Proofs.YtflfabdfkfigcaaW.PrintMore
attribute [local go_sem] max2_int min2_int max_two min_two max_three min_three max_four min_four   -- for this text's walks alone
set_option linter.unusedVariables false
set_option linter.unusedSimpArgs false

/-! ### laws_FnMakeUp: function 4 -/
mutual
noncomputable def laws_FnMakeUp.j0 : Nat → ByteArray → Int → ByteArray → Bool → Bool → Option (Bool)
  | 0, _, _, _, _, _ => none
  | k + 1, x3, x4, x5, x6, x9 => if x9 = true then (laws_FnMakeUp.j1 k x3 x4 x5 x9 (!x6)) else (laws_FnMakeUp.j1 k x3 x4 x5 x9 true)
noncomputable def laws_FnMakeUp.j1 : Nat → ByteArray → Int → ByteArray → Bool → Bool → Option (Bool)
  | 0, _, _, _, _, _ => none
  | k + 1, x3, x4, x5, x9, x46 => if x46 = true then (some x9) else (laws_FnMakeUp.l0 k x3 x4 x5 0)
noncomputable def laws_FnMakeUp.l0 : Nat → ByteArray → Int → ByteArray → Int → Option (Bool)
  | 0, _, _, _, _ => none
  | k + 1, x3, x4, x5, x10 => if x10 ≤ 150 then ((impl_SetHas.f k x5 x10).bind fun t414 => (if x10 ≥ x4 then ((impl_SetHas.f k x3 (wrap64 (x10 - x4))).bind fun t415 => (if (t414 != t415) = true then (some false) else (laws_FnMakeUp.l0 k x3 x4 x5 (wrap64 (x10 + 1))))) else (if (t414 != false) = true then (some false) else (laws_FnMakeUp.l0 k x3 x4 x5 (wrap64 (x10 + 1)))))) else ((impl_MakeDown.f x5 x4).bind fun bt411 => (if bt411.2 = true then ((impl_SetSame.f k bt411.1 x3).bind fun t413 => (some t413)) else (some false)))
end
noncomputable def laws_FnMakeUp.f (k : Nat) (l0 : List Int) : Option (Bool) := if (l0.length : Int) > 1048576 then (some true) else ((spec_DrawMakeUp.f k l0).bind fun bt405 => ((impl_MakeUp.f bt405.1 bt405.2).bind fun bt407 => ((spec_MakeUp.f k bt405.1 bt405.2).bind fun bt409 => (if bt407.1.toList = bt409.1.toList then (laws_FnMakeUp.j0 k bt405.1 bt405.2 bt407.1 bt407.2 (bt407.2 == bt409.2)) else (laws_FnMakeUp.j0 k bt405.1 bt405.2 bt407.1 bt407.2 false)))))
theorem laws_FnMakeUp.mono_l : ∀ k, (∀ y0 y1 y2 y3 y4, LeO (laws_FnMakeUp.j0 k y0 y1 y2 y3 y4) (laws_FnMakeUp.j0 (k + 1) y0 y1 y2 y3 y4)) ∧ (∀ y0 y1 y2 y3 y4, LeO (laws_FnMakeUp.j1 k y0 y1 y2 y3 y4) (laws_FnMakeUp.j1 (k + 1) y0 y1 y2 y3 y4)) ∧ (∀ y0 y1 y2 y3, LeO (laws_FnMakeUp.l0 k y0 y1 y2 y3) (laws_FnMakeUp.l0 (k + 1) y0 y1 y2 y3))
  | 0 => ⟨fun _ _ _ _ _ r h => by simp [laws_FnMakeUp.j0] at h, fun _ _ _ _ _ r h => by simp [laws_FnMakeUp.j1] at h, fun _ _ _ _ r h => by simp [laws_FnMakeUp.l0] at h⟩
  | k + 1 => by
    obtain ⟨ih0, ih1, ih2⟩ := laws_FnMakeUp.mono_l k
    refine ⟨?_, ?_, ?_⟩
    · intro y0 y1 y2 y3 y4
      unfold laws_FnMakeUp.j0
      repeat' first
      | (with_reducible exact ih0 _ _ _ _ _)
      | (with_reducible exact ih1 _ _ _ _ _)
      | (with_reducible exact ih2 _ _ _ _)
      | (with_reducible exact impl_SetHas.mono _ _ _)
      | (with_reducible exact impl_SetSame.mono _ _ _)
      | (with_reducible exact spec_DrawMakeUp.mono _ _)
      | (with_reducible exact spec_MakeUp.mono _ _ _)
      | (with_reducible exact LeO.refl _)
      | (with_reducible exact LeO.none _)
      | (with_reducible refine LeO.ite ?_ ?_)
      | (with_reducible refine LeO.bind ?_ (fun _ => ?_))
      | exact ih0 _ _ _ _ _
      | exact ih1 _ _ _ _ _
      | exact ih2 _ _ _ _
      | exact impl_SetHas.mono _ _ _
      | exact impl_SetSame.mono _ _ _
      | exact spec_DrawMakeUp.mono _ _
      | exact spec_MakeUp.mono _ _ _
      | exact LeO.none _
      | refine LeO.ite ?_ ?_
      | refine LeO.bind ?_ (fun _ => ?_)
    · intro y0 y1 y2 y3 y4
      unfold laws_FnMakeUp.j1
      repeat' first
      | (with_reducible exact ih0 _ _ _ _ _)
      | (with_reducible exact ih1 _ _ _ _ _)
      | (with_reducible exact ih2 _ _ _ _)
      | (with_reducible exact impl_SetHas.mono _ _ _)
      | (with_reducible exact impl_SetSame.mono _ _ _)
      | (with_reducible exact spec_DrawMakeUp.mono _ _)
      | (with_reducible exact spec_MakeUp.mono _ _ _)
      | (with_reducible exact LeO.refl _)
      | (with_reducible exact LeO.none _)
      | (with_reducible refine LeO.ite ?_ ?_)
      | (with_reducible refine LeO.bind ?_ (fun _ => ?_))
      | exact ih0 _ _ _ _ _
      | exact ih1 _ _ _ _ _
      | exact ih2 _ _ _ _
      | exact impl_SetHas.mono _ _ _
      | exact impl_SetSame.mono _ _ _
      | exact spec_DrawMakeUp.mono _ _
      | exact spec_MakeUp.mono _ _ _
      | exact LeO.none _
      | refine LeO.ite ?_ ?_
      | refine LeO.bind ?_ (fun _ => ?_)
    · intro y0 y1 y2 y3
      unfold laws_FnMakeUp.l0
      repeat' first
      | (with_reducible exact ih0 _ _ _ _ _)
      | (with_reducible exact ih1 _ _ _ _ _)
      | (with_reducible exact ih2 _ _ _ _)
      | (with_reducible exact impl_SetHas.mono _ _ _)
      | (with_reducible exact impl_SetSame.mono _ _ _)
      | (with_reducible exact spec_DrawMakeUp.mono _ _)
      | (with_reducible exact spec_MakeUp.mono _ _ _)
      | (with_reducible exact LeO.refl _)
      | (with_reducible exact LeO.none _)
      | (with_reducible refine LeO.ite ?_ ?_)
      | (with_reducible refine LeO.bind ?_ (fun _ => ?_))
      | exact ih0 _ _ _ _ _
      | exact ih1 _ _ _ _ _
      | exact ih2 _ _ _ _
      | exact impl_SetHas.mono _ _ _
      | exact impl_SetSame.mono _ _ _
      | exact spec_DrawMakeUp.mono _ _
      | exact spec_MakeUp.mono _ _ _
      | exact LeO.none _
      | refine LeO.ite ?_ ?_
      | refine LeO.bind ?_ (fun _ => ?_)
theorem laws_FnMakeUp.mono : ∀ a0 k, LeO (laws_FnMakeUp.f k a0) (laws_FnMakeUp.f (k + 1) a0) := by
  intro a0 k
  obtain ⟨ih0, ih1, ih2⟩ := laws_FnMakeUp.mono_l k
  unfold laws_FnMakeUp.f
  repeat' first
      | (with_reducible exact ih0 _ _ _ _ _)
      | (with_reducible exact ih1 _ _ _ _ _)
      | (with_reducible exact ih2 _ _ _ _)
      | (with_reducible exact impl_SetHas.mono _ _ _)
      | (with_reducible exact impl_SetSame.mono _ _ _)
      | (with_reducible exact spec_DrawMakeUp.mono _ _)
      | (with_reducible exact spec_MakeUp.mono _ _ _)
      | (with_reducible exact LeO.refl _)
      | (with_reducible exact LeO.none _)
      | (with_reducible refine LeO.ite ?_ ?_)
      | (with_reducible refine LeO.bind ?_ (fun _ => ?_))
      | exact ih0 _ _ _ _ _
      | exact ih1 _ _ _ _ _
      | exact ih2 _ _ _ _
      | exact impl_SetHas.mono _ _ _
      | exact impl_SetSame.mono _ _ _
      | exact spec_DrawMakeUp.mono _ _
      | exact spec_MakeUp.mono _ _ _
      | exact LeO.none _
      | refine LeO.ite ?_ ?_
      | refine LeO.bind ?_ (fun _ => ?_)
set_option maxHeartbeats 8000000 in
set_option maxRecDepth 100000 in
theorem laws_FnMakeUp.calls (k : Nat) (A0 : Option Addr) (c0 : Nat) (l0 : List Int) (r : Bool) (w : World) (hr0 : Kd.C (Kd.int .u8) w A0 l0.length l0) (hc0 : l0.length ≤ c0) (h : laws_FnMakeUp.f k l0 = some r) :
    Calls Try.prog 4 #[.slice A0 l0.length c0] w fun e w' => e = .returned (.bool r) ∧ Below w.heap.size w w' := by
  have HR0 := Aside0.mk hr0
  have HC0 := Aside0.mk hc0
  clear hr0 hc0
  have HB := Aside0.mk (Below.refl w.heap.size w)
  have H : (if (l0.length : Int) > 1048576 then (some true) else ((spec_DrawMakeUp.f k l0).bind fun bt405 => ((impl_MakeUp.f bt405.1 bt405.2).bind fun bt407 => ((spec_MakeUp.f k bt405.1 bt405.2).bind fun bt409 => (if bt407.1.toList = bt409.1.toList then (laws_FnMakeUp.j0 k bt405.1 bt405.2 bt407.1 bt407.2 (bt407.2 == bt409.2)) else (laws_FnMakeUp.j0 k bt405.1 bt405.2 bt407.1 bt407.2 false)))))) = some r := h
  clear h
  by_cases c2 : (l0.length : Int) > 1048576
  · rw [if_pos c2] at H
    have c2b0 : decide (1048576 < (l0.length : Int)) = true := decide_eq_true c2
    have c2b1 : decide (1048576 < l0.length) = true := decide_eq_true (by omega)
    clear c2
    obtain rfl := Option.some.inj H
    go_enter Try.func4, Try.ntmps4
    go_wp2
    go_ret
    exact ⟨by first | rfl | (simp [errW_none, errW_some] <;> rfl) | (simp [*, errW_none, errW_some] <;> rfl) | (simp [errW_none, errW_some]; exact ⟨rfl, rfl⟩), by repeat (first | (with_reducible first | exact HB.out | apply below_alloc | apply pw_below_drewN | apply below_drew1) | exact HB.out)⟩
  · rw [if_neg c2] at H
    have c2b0 : decide (1048576 < (l0.length : Int)) = false := decide_eq_false c2
    have c2b1 : decide (1048576 < l0.length) = false := decide_eq_false (by omega)
    clear c2
    replace H := Option.bind_eq_some_iff.mp H
    obtain ⟨⟨t405, t406⟩, A30, H⟩ := H
    replace H : ((impl_MakeUp.f t405 t406).bind fun bt407 => ((spec_MakeUp.f k t405 t406).bind fun bt409 => (if bt407.1.toList = bt409.1.toList then (laws_FnMakeUp.j0 k t405 t406 bt407.1 bt407.2 (bt407.2 == bt409.2)) else (laws_FnMakeUp.j0 k t405 t406 bt407.1 bt407.2 false)))) = some r := H
    have A3 := Aside0.mk A30
    clear A30
    replace H := Option.bind_eq_some_iff.mp H
    obtain ⟨⟨t407, t408⟩, A40, H⟩ := H
    replace H : ((spec_MakeUp.f k t405 t406).bind fun bt409 => (if t407.toList = bt409.1.toList then (laws_FnMakeUp.j0 k t405 t406 t407 t408 (t408 == bt409.2)) else (laws_FnMakeUp.j0 k t405 t406 t407 t408 false))) = some r := H
    have A4 := Aside0.mk A40
    clear A40
    replace H := Option.bind_eq_some_iff.mp H
    obtain ⟨⟨t409, t410⟩, A50, H⟩ := H
    replace H : (if t407.toList = t409.toList then (laws_FnMakeUp.j0 k t405 t406 t407 t408 (t408 == t410)) else (laws_FnMakeUp.j0 k t405 t406 t407 t408 false)) = some r := H
    have A5 := Aside0.mk A50
    clear A50
    have HC6 := Aside0.mk H
    clear H
    go_enter Try.func4, Try.ntmps4
    go_upto_region 6 with (first | ((with_reducible refine gate_callee (f := 13) rfl ?_); refine goesL_ (some 18) rfl rfl Try.func13 (by kernel_rfl) rfl #[.slice A0 l0.length c0] rfl (by (try simp only [List.map_toArray, List.map_cons, List.map_nil]); first | done | rfl | (simp only [List.length_drop, List.length_take]; rfl)) ?_; (with_reducible refine (spec_DrawMakeUp.calls k _ _ l0 t405 t406 _ ?side1 ?side2 A3.out).mono ?_); (case side1 => repeat (first | exact HR0.out | (with_reducible refine Kd.C_alloc ?_ _) | (with_reducible refine Kd.C_drewN ?_ _) | (with_reducible refine Kd.C_drew ?_))); (case side2 => exact HC0.out); rintro e w7 ⟨rfl, hb⟩; refine ⟨_, rfl, ?_⟩; have n0_ := Aside0.mk (below_step (by repeat (first | (with_reducible first | exact HB.out | apply below_alloc | apply pw_below_drewN | apply below_drew1) | exact HB.out)) hb); clear HB; have HB := n0_; clear n0_; (try clear hb); (try clear hb2); (try clear hk); (try clear hi)) | ((with_reducible refine gate_callee (f := 14) rfl ?_); refine goesL_ (some 24) rfl rfl Try.func14 (by kernel_rfl) rfl #[.string t405, .int .i64 t406] rfl (by (try simp only [List.map_toArray, List.map_cons, List.map_nil]); first | done | rfl | (simp only [List.length_drop, List.length_take]; rfl)) ?_; (with_reducible refine (impl_MakeUp.calls t405 t406 t407 t408 _ A4.out).mono ?_); rintro e w8 ⟨rfl, hb⟩; refine ⟨_, rfl, ?_⟩; have n0_ := Aside0.mk (below_step (by repeat (first | (with_reducible first | exact HB.out | apply below_alloc | apply pw_below_drewN | apply below_drew1) | exact HB.out)) hb); clear HB; have HB := n0_; clear n0_; (try clear hb); (try clear hb2); (try clear hk); (try clear hi)) | ((with_reducible refine gate_callee (f := 15) rfl ?_); refine goesL_ (some 30) rfl rfl Try.func15 (by kernel_rfl) rfl #[.string t405, .int .i64 t406] rfl (by (try simp only [List.map_toArray, List.map_cons, List.map_nil]); first | done | rfl | (simp only [List.length_drop, List.length_take]; rfl)) ?_; (with_reducible refine (spec_MakeUp.calls k t405 t406 t409 t410 _ A5.out).mono ?_); rintro e w9 ⟨rfl, hb⟩; refine ⟨_, rfl, ?_⟩; have n0_ := Aside0.mk (below_step (by repeat (first | (with_reducible first | exact HB.out | apply below_alloc | apply pw_below_drewN | apply below_drew1) | exact HB.out)) hb); clear HB; have HB := n0_; clear n0_; (try clear hb); (try clear hb2); (try clear hk); (try clear hi)))
    (try simp only [Act.put, List.setIfInBounds_toArray, List.set_cons_zero, List.set_cons_succ])
    go_cut [9] (fun v9 wc => ∃ (kq : Nat) (x9_5 : Bool), v9 = .bool x9_5 ∧ Aside0 (laws_FnMakeUp.j0 kq t405 t406 t407 t408 x9_5 = some r) ∧ Aside0 (kq ≤ k) ∧ Aside0 (Below w.heap.size w wc))
    case first =>
      have H := HC6.out
      clear HC6
      by_cases c10 : t407.toList = t409.toList
      · rw [if_pos c10] at H
        have c10b0 : (t407.toList == t409.toList) = true := beq_iff_eq.mpr c10
        have c10b1 : (t407.toList != t409.toList) = false := bne_eq_false_iff_eq.mpr c10
        clear c10
        (first | rw [c10b0] | (simp only [i64_w, i32_w]; rw [c10b0]) | skip)
        have H' := Aside0.mk H
        clear H
        go_wp2
        go_meet
        case rel => exact ⟨_, ((t408 == t410)), (by first | rfl | (simp; done) | (simp [*]; done) | (simp [Int.tmod_eq_emod_of_nonneg]; done)), H', ⟨by first | omega | exact Nat.le_refl _⟩, ⟨by repeat (first | (with_reducible first | exact HB.out | apply below_alloc | apply pw_below_drewN | apply below_drew1) | exact HB.out)⟩⟩
      · rw [if_neg c10] at H
        have c10b0 : (t407.toList == t409.toList) = false := beq_eq_false_iff_ne.mpr c10
        have c10b1 : (t407.toList != t409.toList) = true := bne_iff_ne.mpr c10
        (first | rw [c10b0] | (simp only [i64_w, i32_w]; rw [c10b0]) | skip)
        have H' := Aside0.mk H
        clear H
        go_wp2
        go_meet
        case rel => exact ⟨_, (false), (by first | rfl | (simp; done) | (simp [*]; done) | (simp [Int.tmod_eq_emod_of_nonneg]; done)), H', ⟨by first | omega | exact Nat.le_refl _⟩, ⟨by repeat (first | (with_reducible first | exact HB.out | apply below_alloc | apply pw_below_drewN | apply below_drew1) | exact HB.out)⟩⟩
    case rest =>
      clear HC6
      try clear c1
      try clear c2
      try clear c2b0
      try clear c2b1
      try clear p2
      try clear c4
      try clear c10
      try clear c10b0
      try clear c10b1
      obtain ⟨kq, x9_5, rfl, HA, HJ5, HB⟩ := hcut
      cases kq with
      | zero => exact absurd HA.out (by simp [laws_FnMakeUp.j0])
      | succ kj5 =>
        have H := HA.out
        clear HA
        simp only [laws_FnMakeUp.j0] at H
        have HC11 := Aside0.mk H
        clear H
        go_upto_region 7 with (fail)
        go_cut [46] (fun v46 wc => ∃ (kq : Nat) (x46_10 : Bool), v46 = .bool x46_10 ∧ Aside0 (laws_FnMakeUp.j1 kq t405 t406 t407 x9_5 x46_10 = some r) ∧ Aside0 (kq ≤ kj5) ∧ Aside0 (Below w.heap.size w wc))
        case first =>
          have H := HC11.out
          clear HC11
          by_cases c12 : x9_5 = true
          · subst c12
            have H1 : (laws_FnMakeUp.j1 kj5 t405 t406 t407 true (!t408)) = some r := by rw [if_pos rfl] at H; exact H
            clear H
            have H := H1
            clear H1
            have H' := Aside0.mk H
            clear H
            go_wp2
            go_meet
            case rel => exact ⟨_, (!t408), (by first | rfl | (simp; done) | (simp [*]; done) | (simp [Int.tmod_eq_emod_of_nonneg]; done)), H', ⟨by have := HJ5.out; first | omega | exact Nat.le_refl _⟩, ⟨by repeat (first | (with_reducible first | exact HB.out | apply below_alloc | apply pw_below_drewN | apply below_drew1) | exact HB.out)⟩⟩
          · replace c12 := Bool.eq_false_iff.mpr c12
            subst c12
            have H1 : (laws_FnMakeUp.j1 kj5 t405 t406 t407 false true) = some r := by rw [if_neg (show ¬ (false = true) by decide)] at H; exact H
            clear H
            have H := H1
            clear H1
            have H' := Aside0.mk H
            clear H
            go_wp2
            go_meet
            case rel => exact ⟨_, (true), (by first | rfl | (simp; done) | (simp [*]; done) | (simp [Int.tmod_eq_emod_of_nonneg]; done)), H', ⟨by have := HJ5.out; first | omega | exact Nat.le_refl _⟩, ⟨by repeat (first | (with_reducible first | exact HB.out | apply below_alloc | apply pw_below_drewN | apply below_drew1) | exact HB.out)⟩⟩
        case rest =>
          clear HC11
          try clear c1
          try clear c2
          try clear c2b0
          try clear c2b1
          try clear p2
          try clear c4
          try clear c10
          try clear c10b0
          try clear c10b1
          try clear c12
          try clear p2
          obtain ⟨kq, x46_10, rfl, HA, HJ10, HB⟩ := hcut
          cases kq with
          | zero => exact absurd HA.out (by simp [laws_FnMakeUp.j1])
          | succ kj10 =>
            have H := HA.out
            clear HA
            simp only [laws_FnMakeUp.j1] at H
            by_cases c13 : x46_10 = true
            · subst c13
              have H1 : (some x9_5) = some r := by rw [if_pos rfl] at H; exact H
              clear H
              have H := H1
              clear H1
              obtain rfl := Option.some.inj H
              go_wp2
              go_ret
              exact ⟨by first | rfl | (simp [errW_none, errW_some] <;> rfl) | (simp [*, errW_none, errW_some] <;> rfl) | (simp [errW_none, errW_some]; exact ⟨rfl, rfl⟩), by repeat (first | (with_reducible first | exact HB.out | apply below_alloc | apply pw_below_drewN | apply below_drew1) | exact HB.out)⟩
            · replace c13 := Bool.eq_false_iff.mpr c13
              subst c13
              have H1 : (laws_FnMakeUp.l0 kj10 t405 t406 t407 0) = some r := by rw [if_neg (show ¬ (false = true) by decide)] at H; exact H
              clear H
              have H := H1
              clear H1
              have H' := Aside0.mk H
              clear H
              go_wp2
              go_loopg [10] kj10 (fun kq v10 w' => ∃ (x10_3 : Int), v10 = .int .i64 x10_3 ∧ Aside0 (laws_FnMakeUp.l0 kq t405 t406 t407 x10_3 = some r) ∧ Aside0 (kq ≤ kj10) ∧ Aside0 (Below w.heap.size w w'))
              case atStart => exact ⟨(0), (by first | rfl | (simp; done) | (simp [*]; done) | (simp [Int.tmod_eq_emod_of_nonneg]; done)), H', ⟨Nat.le_refl _⟩, ⟨by repeat (first | (with_reducible first | exact HB.out | apply below_alloc | apply pw_below_drewN | apply below_drew1) | exact HB.out)⟩⟩
              case round =>
                clear H'
                try clear c1
                try clear c2
                try clear c2b0
                try clear c2b1
                try clear p2
                try clear c4
                try clear c10
                try clear c10b0
                try clear c10b1
                try clear c12
                try clear c13
                try clear p2
                obtain ⟨x10_3, rfl, HA, HK3, HB⟩ := hrel
                cases gk with
                | zero => exact absurd HA.out (by simp [laws_FnMakeUp.l0])
                | succ k3 =>
                  have H := HA.out
                  clear HA
                  simp only [laws_FnMakeUp.l0] at H
                  by_cases c14 : x10_3 ≤ 150
                  · rw [if_pos c14] at H
                    have c14b0 : decide (x10_3 ≤ 150) = true := decide_eq_true c14
                    clear c14
                    replace H := Option.bind_eq_some_iff.mp H
                    obtain ⟨t414, A150, H⟩ := H
                    replace H : (if x10_3 ≥ t406 then ((impl_SetHas.f k3 t405 (wrap64 (x10_3 - t406))).bind fun t415 => (if (t414 != t415) = true then (some false) else (laws_FnMakeUp.l0 k3 t405 t406 t407 (wrap64 (x10_3 + 1))))) else (if (t414 != false) = true then (some false) else (laws_FnMakeUp.l0 k3 t405 t406 t407 (wrap64 (x10_3 + 1))))) = some r := H
                    have A15 := Aside0.mk A150
                    clear A150
                    by_cases c16 : x10_3 ≥ t406
                    · rw [if_pos c16] at H
                      have c16b0 : decide (t406 ≤ x10_3) = true := decide_eq_true c16
                      clear c16
                      replace H := Option.bind_eq_some_iff.mp H
                      obtain ⟨t415, A170, H⟩ := H
                      replace H : (if (t414 != t415) = true then (some false) else (laws_FnMakeUp.l0 k3 t405 t406 t407 (wrap64 (x10_3 + 1)))) = some r := H
                      have A17 := Aside0.mk A170
                      clear A170
                      by_cases c18 : (t414 != t415) = true
                      · rw [if_pos c18] at H
                        have c18b0 : (t414 != t415) = true := c18
                        (try (have c18b1 : decide (t414 = t415) = false := by simpa using c18))
                        (try (have c18b2 : (t414 == t415) = false := by simpa using c18))
                        (try (have c18b3 : ¬ (t414 = t415) := by simpa using c18))
                        clear c18
                        obtain rfl := Option.some.inj H
                        go_wp2_with (first | ((with_reducible refine gate_callee (f := 12) rfl ?_); refine goesL_ (some 54) rfl rfl Try.func12 (by kernel_rfl) rfl #[.string t407, .int .i64 x10_3] rfl (by (try simp only [List.map_toArray, List.map_cons, List.map_nil]); first | done | rfl | (simp only [List.length_drop, List.length_take]; rfl)) ?_; (with_reducible refine (impl_SetHas.calls k3 t407 x10_3 t414 _ A15.out).mono ?_); rintro e w19 ⟨rfl, hb⟩; refine ⟨_, rfl, ?_⟩; have n0_ := Aside0.mk (below_step (by repeat (first | (with_reducible first | exact HB.out | apply below_alloc | apply pw_below_drewN | apply below_drew1) | exact HB.out)) hb); clear HB; have HB := n0_; clear n0_; (try clear hb); (try clear hb2); (try clear hk); (try clear hi)) | (go_at_call 12; (with_reducible refine (impl_SetHas.calls k3 t405 (wrap64 (x10_3 - t406)) t415 _ A17.out).mono ?_); rintro e w20 ⟨rfl, hb⟩; have n0_ := Aside0.mk (below_step (by repeat (first | (with_reducible first | exact HB.out | apply below_alloc | apply pw_below_drewN | apply below_drew1) | exact HB.out)) hb); clear HB; have HB := n0_; clear n0_; (try clear hb); (try clear hb2); (try clear hk); (try clear hi)))
                        go_ret
                        exact ⟨by first | rfl | (simp [errW_none, errW_some] <;> rfl) | (simp [*, errW_none, errW_some] <;> rfl) | (simp [errW_none, errW_some]; exact ⟨rfl, rfl⟩), by repeat (first | (with_reducible first | exact HB.out | apply below_alloc | apply pw_below_drewN | apply below_drew1) | exact HB.out)⟩
                      · rw [if_neg c18] at H
                        have c18b0 : (t414 != t415) = false := by simpa using c18
                        (try (have c18b1 : decide (t414 = t415) = true := by simpa using c18))
                        (try (have c18b2 : (t414 == t415) = true := by simpa using c18))
                        clear c18
                        have H' := Aside0.mk H
                        clear H
                        go_wp2_with (first | ((with_reducible refine gate_callee (f := 12) rfl ?_); refine goesL_ (some 54) rfl rfl Try.func12 (by kernel_rfl) rfl #[.string t407, .int .i64 x10_3] rfl (by (try simp only [List.map_toArray, List.map_cons, List.map_nil]); first | done | rfl | (simp only [List.length_drop, List.length_take]; rfl)) ?_; (with_reducible refine (impl_SetHas.calls k3 t407 x10_3 t414 _ A15.out).mono ?_); rintro e w21 ⟨rfl, hb⟩; refine ⟨_, rfl, ?_⟩; have n0_ := Aside0.mk (below_step (by repeat (first | (with_reducible first | exact HB.out | apply below_alloc | apply pw_below_drewN | apply below_drew1) | exact HB.out)) hb); clear HB; have HB := n0_; clear n0_; (try clear hb); (try clear hb2); (try clear hk); (try clear hi)) | (go_at_call 12; (with_reducible refine (impl_SetHas.calls k3 t405 (wrap64 (x10_3 - t406)) t415 _ A17.out).mono ?_); rintro e w22 ⟨rfl, hb⟩; have n0_ := Aside0.mk (below_step (by repeat (first | (with_reducible first | exact HB.out | apply below_alloc | apply pw_below_drewN | apply below_drew1) | exact HB.out)) hb); clear HB; have HB := n0_; clear n0_; (try clear hb); (try clear hb2); (try clear hk); (try clear hi)))
                        go_roundg k3
                        case measure => have := HJ5.out; have := HJ10.out; have := HK3.out; omega
                        case rel => exact ⟨(wrap64 (x10_3 + 1)), (by first | rfl | (simp; done) | (simp [*]; done) | (simp [Int.tmod_eq_emod_of_nonneg]; done)), H', ⟨by have := HJ5.out; have := HJ10.out; have := HK3.out; omega⟩, ⟨by repeat (first | (with_reducible first | exact HB.out | apply below_alloc | apply pw_below_drewN | apply below_drew1) | exact HB.out)⟩⟩
                    · rw [if_neg c16] at H
                      have c16b0 : decide (t406 ≤ x10_3) = false := decide_eq_false c16
                      clear c16
                      by_cases c23 : (t414 != false) = true
                      · rw [if_pos c23] at H
                        have c23b0 : (t414 != false) = true := c23
                        (try (have c23b1 : decide (t414 = false) = false := by simpa using c23))
                        (try (have c23b2 : (t414 == false) = false := by simpa using c23))
                        (try (have c23b3 : ¬ (t414 = false) := by simpa using c23))
                        clear c23
                        obtain rfl := Option.some.inj H
                        go_wp2_with (first | ((with_reducible refine gate_callee (f := 12) rfl ?_); refine goesL_ (some 54) rfl rfl Try.func12 (by kernel_rfl) rfl #[.string t407, .int .i64 x10_3] rfl (by (try simp only [List.map_toArray, List.map_cons, List.map_nil]); first | done | rfl | (simp only [List.length_drop, List.length_take]; rfl)) ?_; (with_reducible refine (impl_SetHas.calls k3 t407 x10_3 t414 _ A15.out).mono ?_); rintro e w24 ⟨rfl, hb⟩; refine ⟨_, rfl, ?_⟩; have n0_ := Aside0.mk (below_step (by repeat (first | (with_reducible first | exact HB.out | apply below_alloc | apply pw_below_drewN | apply below_drew1) | exact HB.out)) hb); clear HB; have HB := n0_; clear n0_; (try clear hb); (try clear hb2); (try clear hk); (try clear hi)))
                        go_ret
                        exact ⟨by first | rfl | (simp [errW_none, errW_some] <;> rfl) | (simp [*, errW_none, errW_some] <;> rfl) | (simp [errW_none, errW_some]; exact ⟨rfl, rfl⟩), by repeat (first | (with_reducible first | exact HB.out | apply below_alloc | apply pw_below_drewN | apply below_drew1) | exact HB.out)⟩
                      · rw [if_neg c23] at H
                        have c23b0 : (t414 != false) = false := by simpa using c23
                        (try (have c23b1 : decide (t414 = false) = true := by simpa using c23))
                        (try (have c23b2 : (t414 == false) = true := by simpa using c23))
                        clear c23
                        have H' := Aside0.mk H
                        clear H
                        go_wp2_with (first | ((with_reducible refine gate_callee (f := 12) rfl ?_); refine goesL_ (some 54) rfl rfl Try.func12 (by kernel_rfl) rfl #[.string t407, .int .i64 x10_3] rfl (by (try simp only [List.map_toArray, List.map_cons, List.map_nil]); first | done | rfl | (simp only [List.length_drop, List.length_take]; rfl)) ?_; (with_reducible refine (impl_SetHas.calls k3 t407 x10_3 t414 _ A15.out).mono ?_); rintro e w25 ⟨rfl, hb⟩; refine ⟨_, rfl, ?_⟩; have n0_ := Aside0.mk (below_step (by repeat (first | (with_reducible first | exact HB.out | apply below_alloc | apply pw_below_drewN | apply below_drew1) | exact HB.out)) hb); clear HB; have HB := n0_; clear n0_; (try clear hb); (try clear hb2); (try clear hk); (try clear hi)))
                        go_roundg k3
                        case measure => have := HJ5.out; have := HJ10.out; have := HK3.out; omega
                        case rel => exact ⟨(wrap64 (x10_3 + 1)), (by first | rfl | (simp; done) | (simp [*]; done) | (simp [Int.tmod_eq_emod_of_nonneg]; done)), H', ⟨by have := HJ5.out; have := HJ10.out; have := HK3.out; omega⟩, ⟨by repeat (first | (with_reducible first | exact HB.out | apply below_alloc | apply pw_below_drewN | apply below_drew1) | exact HB.out)⟩⟩
                  · rw [if_neg c14] at H
                    have c14b0 : decide (x10_3 ≤ 150) = false := decide_eq_false c14
                    clear c14
                    replace H := Option.bind_eq_some_iff.mp H
                    obtain ⟨⟨t411, t412⟩, A260, H⟩ := H
                    replace H : (if t412 = true then ((impl_SetSame.f k3 t411 t405).bind fun t413 => (some t413)) else (some false)) = some r := H
                    have A26 := Aside0.mk A260
                    clear A260
                    by_cases c27 : t412 = true
                    · subst c27
                      have H1 : ((impl_SetSame.f k3 t411 t405).bind fun t413 => (some t413)) = some r := by rw [if_pos rfl] at H; exact H
                      clear H
                      have H := H1
                      clear H1
                      replace H := Option.bind_eq_some_iff.mp H
                      obtain ⟨t413, A280, H⟩ := H
                      replace H : (some t413) = some r := H
                      have A28 := Aside0.mk A280
                      clear A280
                      obtain rfl := Option.some.inj H
                      go_wp2_with (first | ((with_reducible refine gate_callee (f := 16) rfl ?_); refine goesL_ (some 69) rfl rfl Try.func16 (by kernel_rfl) rfl #[.string t407, .int .i64 t406] rfl (by (try simp only [List.map_toArray, List.map_cons, List.map_nil]); first | done | rfl | (simp only [List.length_drop, List.length_take]; rfl)) ?_; (with_reducible refine (impl_MakeDown.calls t407 t406 t411 true _ A26.out).mono ?_); rintro e w29 ⟨rfl, hb⟩; refine ⟨_, rfl, ?_⟩; have n0_ := Aside0.mk (below_step (by repeat (first | (with_reducible first | exact HB.out | apply below_alloc | apply pw_below_drewN | apply below_drew1) | exact HB.out)) hb); clear HB; have HB := n0_; clear n0_; (try clear hb); (try clear hb2); (try clear hk); (try clear hi)) | (go_at_call 17; (with_reducible refine (impl_SetSame.calls k3 t411 t405 t413 _ A28.out).mono ?_); rintro e w30 ⟨rfl, hb⟩; have n0_ := Aside0.mk (below_step (by repeat (first | (with_reducible first | exact HB.out | apply below_alloc | apply pw_below_drewN | apply below_drew1) | exact HB.out)) hb); clear HB; have HB := n0_; clear n0_; (try clear hb); (try clear hb2); (try clear hk); (try clear hi)))
                      go_ret
                      exact ⟨by first | rfl | (simp [errW_none, errW_some] <;> rfl) | (simp [*, errW_none, errW_some] <;> rfl) | (simp [errW_none, errW_some]; exact ⟨rfl, rfl⟩), by repeat (first | (with_reducible first | exact HB.out | apply below_alloc | apply pw_below_drewN | apply below_drew1) | exact HB.out)⟩
                    · replace c27 := Bool.eq_false_iff.mpr c27
                      subst c27
                      have H1 : (some false) = some r := by rw [if_neg (show ¬ (false = true) by decide)] at H; exact H
                      clear H
                      have H := H1
                      clear H1
                      obtain rfl := Option.some.inj H
                      go_wp2_with (first | ((with_reducible refine gate_callee (f := 16) rfl ?_); refine goesL_ (some 69) rfl rfl Try.func16 (by kernel_rfl) rfl #[.string t407, .int .i64 t406] rfl (by (try simp only [List.map_toArray, List.map_cons, List.map_nil]); first | done | rfl | (simp only [List.length_drop, List.length_take]; rfl)) ?_; (with_reducible refine (impl_MakeDown.calls t407 t406 t411 false _ A26.out).mono ?_); rintro e w31 ⟨rfl, hb⟩; refine ⟨_, rfl, ?_⟩; have n0_ := Aside0.mk (below_step (by repeat (first | (with_reducible first | exact HB.out | apply below_alloc | apply pw_below_drewN | apply below_drew1) | exact HB.out)) hb); clear HB; have HB := n0_; clear n0_; (try clear hb); (try clear hb2); (try clear hk); (try clear hi)))
                      go_ret
                      exact ⟨by first | rfl | (simp [errW_none, errW_some] <;> rfl) | (simp [*, errW_none, errW_some] <;> rfl) | (simp [errW_none, errW_some]; exact ⟨rfl, rfl⟩), by repeat (first | (with_reducible first | exact HB.out | apply below_alloc | apply pw_below_drewN | apply below_drew1) | exact HB.out)⟩

/-- THE ONE PURE STATEMENT of laws_FnMakeUp: yours. -/
noncomputable def laws_FnMakeUp.Pure : Prop := ∀ (l0 : List Int), l0.length ≤ maxLen → l0.length * 1 ≤ 140737488351232 → (∀ x ∈ l0, (Lit.int .u8 x).wf = true) → ∃ k, laws_FnMakeUp.f k l0 = some true
theorem laws_FnMakeUp.walk (P : laws_FnMakeUp.Pure) (a0 : Option Addr) (len0 cap0 : Nat) (z0 : List Int) (w : World) (w0 : (a0 = none ∧ len0 = 0 ∧ cap0 = 0 ∧ z0 = []) ∨ ∃ x, a0 = some x ∧ len0 ≤ cap0 ∧ cap0 ≤ maxLen ∧ z0.length = cap0 ∧ (∀ i, i < z0.length → w.cell? (x.add i) = some (.int .u8 (z0.getD i 0))) ∧ ∀ n ∈ z0, (Lit.int .u8 n).wf = true) (y0 : len0 * 1 ≤ 140737488351232) :
    Calls Try.prog 4 #[.slice a0 len0 cap0] w fun e w' => e = .returned (.bool true) ∧ Below w.heap.size w w' := by
  obtain ⟨l0, rfl, hr0, hm0, hw0, hc0⟩ := ReadsInt.ofRowC w0
  obtain ⟨k, h⟩ := P l0 hm0 y0 hw0
  refine (laws_FnMakeUp.calls k _ _ l0 true w (Kd.C_of_reads (d := (0 : Int)) (h1 := fun _ => rfl) hr0) hc0 h).mono ?_
  rintro e w' ⟨rfl, hd⟩
  exact ⟨rfl, hd⟩

end Go.Proofs.Ytflfabdfkfigcaa.P

-- spec.MakeUp puts signs ahead.
namespace Go.Proofs.Ytflfabdfkfigcaa.P
open Go.RowKit Go.Proofs.YtflfabdfkfigcaaW.PrintWords Go.Proofs.YtflfabdfkfigcaaW.PrintLast Go.Proofs.YtflfabdfkfigcaaW.PrintMore
set_option linter.unusedVariables false
set_option linter.unusedSimpArgs false

theorem up_list (a b : List Bool) (k : Nat) : hasB (List.replicate k false ++ a) b = upq (hasB a b) k := by
  funext n
  unfold upq
  have hl : (List.replicate k false ++ a).length = k + a.length := by rw [List.length_append, List.length_replicate]
  by_cases h : n < k
  · rw [if_pos h, hasB_tail (by omega)]
    rw [List.getD_eq_getElem?_getD, List.getElem?_append_left (by rw [List.length_replicate]; exact h)]
    simp [h]
  · rw [if_neg h]
    by_cases h2 : n < k + a.length
    · rw [hasB_tail (by omega), hasB_tail (by omega)]
      rw [List.getD_eq_getElem?_getD, List.getElem?_append_right (by rw [List.length_replicate]; omega), List.length_replicate, List.getD_eq_getElem?_getD]
    · rw [hasB_ring' (by omega), hasB_ring' (by omega), hl]
      congr 2; omega
theorem smakeUp_f (s : ByteArray) (hs : s.size ≤ 70368744177664) (k : Int) : Ev (fun n => spec_MakeUp.f n s k) (upr (chrs s) k) := by
  refine Ev.congr (fun n => rfl) (Ev.bind (read_f s hs) ?_)
  unfold parsed
  cases h : parse (chrs s) with
  | none =>
    have e : upr (chrs s) k = (⟨#[]⟩, false) := by unfold upr; rw [h]; rfl
    rw [e]; simp only [Bool.false_eq_true, if_false]; exact Ev.now _
  | some ab =>
    have hb := parse_some (a := ab.1) (b := ab.2) h
    simp only [if_true, l6in_f, Option.bind_some]
    by_cases hk : 0 ≤ k ∧ k ≤ 60
    · obtain ⟨k, rfl⟩ := Int.eq_ofNat_of_zero_le (show 0 ≤ k by omega)
      have e : upr (chrs s) k = txt (cn (upq (hasB ab.1 ab.2) k)) := by
        unfold upr; rw [h, setf_some (a := ab.1) (b := ab.2) h, decide_eq_true hk, Int.toNat_natCast]; rfl
      rw [e, ← up_list]
      have hlen : (List.replicate k false ++ ab.1).length = k + ab.1.length := by rw [List.length_append, List.length_replicate]
      have h2 := done_f (List.replicate k false ++ ab.1) ab.2 hb.2.2 (by omega)
      simp only [decide_eq_true hk, Int.toNat_natCast, if_true, if_pos hk.1, if_pos (show k ≤ 281474976710656 by omega), if_pos (show (List.replicate k false).length + ab.1.length < 140737488355328 by rw [List.length_replicate]; omega)]
      exact Ev.bind h2 (Ev.now _)
    · have e : upr (chrs s) k = (⟨#[]⟩, false) := by unfold upr; rw [decide_eq_false hk, Bool.and_false]; rfl
      rw [e]; simp only [decide_eq_false hk, Bool.false_eq_true, if_false]; exact Ev.now _
end Go.Proofs.Ytflfabdfkfigcaa.P

-- For every code the law FnMakeUp holds.
namespace Go.Proofs.Ytflfabdfkfigcaa.P
open Go.RowKit Go.Proofs.YtflfabdfkfigcaaW.PrintWords Go.Proofs.YtflfabdfkfigcaaW.PrintLast Go.Proofs.YtflfabdfkfigcaaW.PrintMore
set_option linter.unusedVariables false
set_option linter.unusedSimpArgs false

theorem drawUp_f (l : List Int) (h : ∀ x ∈ l, (Lit.int .u8 x).wf = true) : ∃ (s : ByteArray) (n0 : Int), Few s ∧ -2 ≤ n0 ∧ n0 ≤ 2000 ∧ Ev (fun k => spec_DrawMakeUp.f k l) (s, n0) := by
  obtain ⟨s, q, hf, hq, K0, h0⟩ := set91_f (code_of h) 0 (by omega)
  dsimp only at h0
  have g0 : ∀ k, K0 ≤ k → spec_l91Set.f k (l.take 2000) 0 = some (s, (q : Int)) := h0
  obtain ⟨v0, p0, a0, b0, c0, K1, h1⟩ := num91_f (code_of h) q 60 (by omega) (by omega)
  dsimp only at h1
  have g1 : ∀ k, K1 ≤ k → spec_l91Number.f k (l.take 2000) (q : Int) 60 = some (v0, (p0 : Int)) := h1
  refine ⟨s, v0, hf, by omega, by omega, K0 + K1, fun k hk => ?_⟩
  dsimp only
  unfold spec_DrawMakeUp.f
  rw [open_f, Option.bind_some, g0 k (by omega), Option.bind_some, g1 k (by omega), Option.bind_some]
theorem lawMakeUp_l0 (s x0 : ByteArray) (hs : s.size ≤ 70368744177664) (hx : x0.size ≤ 122) (a : Nat) (ha : a ≤ 60) {ca cb : List Bool} (hp : parse (chrs s) = some (ca, cb)) (hq : setf (chrs x0) = upq (setf (chrs s)) a) {y : List Bool × List Bool} (hy : parse (chrs x0) = some y) (ht : tdy (chrs x0) = (x0, true)) : ∀ (d n : Nat), n ≤ 151 → 151 - n = d →
    Ev (fun k => laws_FnMakeUp.l0 k s a x0 n) true := by
  intro d
  induction d with
  | zero =>
    intro n hn hd
    have e : n = 151 := by omega
    subst e
    have hb := parse_some hp
    obtain ⟨p1, p2⟩ := parse_per hp
    have hs1 := cn_spec p1 p2
    have e1 : dwn (chrs x0) (a : Int) = txt (cn (hasB ca cb)) := by
      unfold dwn
      rw [hy, decide_eq_true (show (0 : Int) ≤ (a : Int) ∧ (a : Int) ≤ 1000 by omega), Int.toNat_natCast, hq, setf_some hp]
      have : shf (upq (hasB ca cb) a) a = hasB ca cb := shf_upq (hasB ca cb) a
      rw [this]; rfl
    have hfit : (txt (cn (hasB ca cb))).2 = true := by rw [txt_ok (by omega) (by omega)]
    have hback := txt_parse p1 p2 hfit
    have hsame : sameS (chrs (txt (cn (hasB ca cb))).1) (chrs s) = true := (sameS_some hback hp).2 (cn_has p1 p2)
    obtain ⟨K, hK⟩ := isetSame_f (txt (cn (hasB ca cb))).1 s (by have := txt_size (cn (hasB ca cb)); omega) hs
    dsimp only at hK
    rw [hsame] at hK
    refine ⟨K + 1, fun k hk => ?_⟩
    obtain ⟨k, rfl, hk2⟩ := down1 hk
    simp only [laws_FnMakeUp.l0]
    rw [if_neg (by omega), makeDown_f x0 (by omega), Option.bind_some, e1, hfit, if_pos (by trivial), hK k hk2, Option.bind_some]
  | succ d ih =>
    intro n hn hd
    obtain ⟨K3, h3⟩ := ih (n + 1) (by omega) (by omega)
    dsimp only at h3
    obtain ⟨K1, h1⟩ := isetHas_f x0 (by omega) n (by omega)
    dsimp only at h1
    rw [hq] at h1
    by_cases hna : a ≤ n
    · have hu : upq (setf (chrs s)) a n = setf (chrs s) (n - a) := by unfold upq; rw [if_neg (by omega)]
      rw [hu] at h1
      obtain ⟨K2, h2⟩ := isetHas_f s hs (n - a) (by omega)
      dsimp only at h2
      refine ⟨K1 + K2 + K3 + 1, fun k hk => ?_⟩
      obtain ⟨k, rfl, hk2⟩ := down1 hk
      simp only [laws_FnMakeUp.l0]
      rw [if_pos (by omega), h1 k (by omega), Option.bind_some, if_pos (by omega), wsub hna (by omega), h2 k (by omega), Option.bind_some, if_neg (bne_no _), wsucc (by omega)]
      exact h3 k (by omega)
    · have hu : upq (setf (chrs s)) a n = false := by unfold upq; rw [if_pos (by omega)]
      rw [hu] at h1
      refine ⟨K1 + K3 + 1, fun k hk => ?_⟩
      obtain ⟨k, rfl, hk2⟩ := down1 hk
      simp only [laws_FnMakeUp.l0]
      rw [if_pos (by omega), h1 k (by omega), Option.bind_some, if_neg (by omega), if_neg (bne_no _), wsucc (by omega)]
      exact h3 k (by omega)
theorem lawMakeUp_ev (l : List Int) (h : ∀ x ∈ l, (Lit.int .u8 x).wf = true) : Ev (fun k => laws_FnMakeUp.f k l) true := by
  by_cases hl : (l.length : Int) > 1048576
  · exact ⟨0, fun k _ => by dsimp only; unfold laws_FnMakeUp.f; rw [if_pos hl]⟩
  · obtain ⟨s, n0, hf, lo0, hi0, K1, h1⟩ := drawUp_f l h
    dsimp only at h1
    have hz := hf.size
    have hs : s.size ≤ 70368744177664 := by omega
    obtain ⟨K2, h2⟩ := smakeUp_f s hs n0
    dsimp only at h2
    have h3 := makeUp_f s hs n0
    have main : Ev (fun k => laws_FnMakeUp.j0 k s n0 (upr (chrs s) n0).1 (upr (chrs s) n0).2 true) true := by
      cases h4 : (upr (chrs s) n0).2 with
      | false =>
        refine Ev.step (f := fun k => laws_FnMakeUp.j1 k s n0 (upr (chrs s) n0).1 true true) (fun k => ?_) (Ev.step (f := fun k => some true) (fun k => ?_) (Ev.now _))
        · simp only [laws_FnMakeUp.j0]; rfl
        · simp only [laws_FnMakeUp.j1]; rfl
      | true =>
        unfold upr at h4 ⊢
        obtain ⟨hc, hA⟩ := ite_ok h4
        rw [if_pos hc]
        rw [Bool.and_eq_true] at hc
        have hr := of_decide_eq_true hc.2
        obtain ⟨kk, rfl⟩ := Int.eq_ofNat_of_zero_le hr.1
        rw [Int.toNat_natCast] at hA ⊢
        obtain ⟨⟨a, b⟩, hp⟩ := Option.isSome_iff_exists.1 hc.1
        have hb := parse_some hp
        have hpos := List.length_pos_iff.2 hb.2.2
        have hset := setf_some hp
        have hper : Per (upq (setf (chrs s)) kk) (a.length + kk) b.length := by rw [hset]; exact upq_per (hasB_per a b) kk
        refine Ev.step (f := fun k => laws_FnMakeUp.j1 k s kk (txt (cn (upq (setf (chrs s)) kk))).1 true false) (fun k => ?_) (Ev.step (fun k => ?_) (lawMakeUp_l0 s _ hs (txt_size _) kk (by omega) hp (txt_setf hpos hper hA) (txt_parse hpos hper hA) (txt_tdy hpos hper hA) _ 0 (by omega) rfl))
        · simp only [laws_FnMakeUp.j0]; rfl
        · simp only [laws_FnMakeUp.j1]; rfl
    obtain ⟨K4, h4⟩ := main
    dsimp only at h4
    refine ⟨K1 + K2 + K4, fun k hk => ?_⟩
    dsimp only
    unfold laws_FnMakeUp.f
    rw [if_neg hl, h1 k (by omega), Option.bind_some]
    try dsimp only
    rw [h3, Option.bind_some, h2 k (by omega), Option.bind_some, if_pos rfl, BEq.rfl]
    exact h4 k (by omega)
theorem lawMakeUp_pure : laws_FnMakeUp.Pure := fun l _ _ h => (lawMakeUp_ev l h).rounds
end Go.Proofs.Ytflfabdfkfigcaa.P

-- For every code the law FnMakeUp holds.
namespace Go.Proofs.Ytflfabdfkfigcaa.Pure
theorem FnMakeUp : Go.Proofs.Ytflfabdfkfigcaa.P.laws_FnMakeUp.Pure := Go.Proofs.Ytflfabdfkfigcaa.P.lawMakeUp_pure
end Go.Proofs.Ytflfabdfkfigcaa.Pure
