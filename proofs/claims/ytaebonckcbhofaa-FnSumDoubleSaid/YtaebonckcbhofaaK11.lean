/- What these laws reach, joined by a program of this session: contracts (written by that program over the kit's print, or by hand) and plain lemmas. -/
import Derived.Test.YtaebonckcbhofaaK1
import Derived.Test.YtaebonckcbhofaaK3
import Derived.Test.YtaebonckcbhofaaK4
import Derived.Test.YtaebonckcbhofaaK5
-- impl.SumDouble: all sums of two different numbers of a small set.
namespace Go.Proofs.Ytaebonckcbhofaa.P
open Go.RowKit Go.Proofs.YtaebonckcbhofaaW.PrintWords Go.Proofs.YtaebonckcbhofaaW.PrintLast Go.Proofs.YtaebonckcbhofaaW.PrintMore
set_option linter.unusedVariables false
set_option linter.unusedSimpArgs false

noncomputable def impl_SumDouble.f (s : ByteArray) : Option (ByteArray × Bool) := if s.size ≤ 70368744177664 then some (dbr (chrs s)) else none
theorem sumDouble_f (s : ByteArray) (hs : s.size ≤ 70368744177664) : impl_SumDouble.f s = some (dbr (chrs s)) := by unfold impl_SumDouble.f; rw [if_pos hs]

set_option maxHeartbeats 8000000 in
set_option maxRecDepth 100000 in
theorem dbl_q_calls (t r : List Bool) (hr : r ≠ []) (hl : t.length ≤ 60 ∧ r.length ≤ 60) (A0 : Option Addr) (c0 : Nat) (A1 : Option Addr) (c1 n b : Nat) (hn : n ≤ 100000) (W : World)
    (hC0 : Kd.C Kd.bool W A0 t.length t) (h0 : t.length ≤ c0) (hC1 : Kd.C Kd.bool W A1 r.length r) (h1 : r.length ≤ c1)
    (hx0 : W.cell? ⟨b, 0, none⟩ = some (.slice A0 t.length c0)) (hx1 : W.cell? ⟨b, 1, none⟩ = some (.slice A1 r.length c1)) :
    Calls Try.prog 32 #[.int .i64 n, .pointer (some ⟨b, 0, none⟩)] W fun e w' => e = .returned (.bool (dblq (hasB t r) n)) ∧ Below W.heap.size W w' := by
  have HC := fun (W' : World) (hw : Below W.heap.size W W') (i : Nat) (hi : i ≤ 1000000) => Aside0.mk (impl_set_has.calls A0 c0 t A1 c1 r (i : Int) (hasB t r i) W' (Kd.C_below hC0 hw) h0 (Kd.C_below hC1 hw) h1 (ihas_f t r hr (by omega) i (by omega)))
  have hbl := World.block_lt_of_cell? W _ hx0
  have hu := Try.underlying42
  have hT : ∀ i, 2 * i < n → hasB t r i = true → hasB t r (n - i) = true → dblq (hasB t r) n = true := fun i h1 h2 h3 => by rw [dblq_iff']; exact dec_true ⟨i, h1, h2, h3⟩
  have hF : (∀ i, 2 * i < n → ¬ (hasB t r i = true ∧ hasB t r (n - i) = true)) → dblq (hasB t r) n = false := fun h => by rw [dblq_iff']; exact dec_false fun ⟨i, h1, h2, h3⟩ => h i h1 ⟨h2, h3⟩
  have hK : ∀ w', Below W.heap.size W w' → w'.cell? ⟨b, 0, none⟩ = some (.slice A0 t.length c0) ∧ w'.cell? ⟨b, 1, none⟩ = some (.slice A1 r.length c1) := fun w' hw => ⟨(hw.cell (p := ⟨b, 0, none⟩) hbl).trans hx0, (hw.cell (p := ⟨b, 1, none⟩) hbl).trans hx1⟩
  have HK := Aside0.mk hK
  have HT := Aside0.mk hT
  have HF := Aside0.mk hF
  generalize dblq (hasB t r) n = res at *
  clear hC0 hC1 h0 h1 hl hr hK hT hF
  go_enter Try.func32, Try.ntmps32
  go_wp2
  go_loopg [4] n (fun gg s4 wr => ∃ i : Nat, i ≤ n ∧ n - i ≤ gg ∧ s4 = .int .i64 i ∧ Aside0 (∀ j, j < i → ¬ (hasB t r j = true ∧ hasB t r (n - j) = true)) ∧ Aside0 (Below W.heap.size W wr))
  case atStart => exact ⟨0, Nat.zero_le _, by omega, rfl, ⟨fun j hj => by omega⟩, ⟨by repeat (first | exact Below.refl _ _ | apply below_drew1)⟩⟩
  case round =>
    obtain ⟨i, hi, hgg, rfl, HN, HB⟩ := hrel
    have hmul : IntKind.i64.wrap (2 * (i : Int)) = ((2 * i : Nat) : Int) := by rw [IntKind.wrap_i64]; omega
    by_cases hlt : 2 * i < n
    · have hlt2 : ((2 * i : Nat) : Int) < (n : Int) := by omega
      have hsub : IntKind.i64.wrap ((n : Int) - (i : Int)) = ((n - i : Nat) : Int) := by rw [IntKind.wrap_i64]; omega
      have hadd : IntKind.i64.wrap ((i : Int) + 1) = ((i + 1 : Nat) : Int) := by rw [IntKind.wrap_i64]; omega
      have HC1 := HC _ HB.out i (by omega)
      have HC2 := fun W' hW => HC W' hW (n - i) (by omega)
      obtain ⟨k0, k1⟩ := HK.out _ HB.out
      cases hv : hasB t r i with
      | false =>
        rw [hv] at HC1
        have HV := Aside0.mk hv
        clear HC HC2 hv
        go_wp2_with (go_at_call 33; refine HC1.out.mono ?_; rintro e w1 ⟨rfl, hd⟩; have HB1 := Aside0.mk (below_step HB.out hd); clear hd)
        go_roundg (n - (i + 1))
        case measure => omega
        case rel => exact ⟨i + 1, by omega, by omega, by go_num, ⟨fun j hj => by
          rcases Nat.lt_or_ge j i with h | h
          · exact HN.out j h
          · rw [show j = i by omega, HV.out]; simp⟩, HB1⟩
      | true =>
        rw [hv] at HC1
        cases hv2 : hasB t r (n - i) with
        | true =>
          have HR := Aside0.mk (HT.out i hlt hv hv2)
          rw [hv2] at HC2
          clear HC hv hv2
          go_wp2_with (first
            | (go_at_call 33; with_reducible refine HC1.out.mono ?_; rintro e w1 ⟨rfl, hd⟩; have HB1 := Aside0.mk (below_step HB.out hd); have m0 := (HK.out _ HB1.out).1; have m1 := (HK.out _ HB1.out).2; clear hd)
            | (go_at_call 33; with_reducible refine (HC2 _ HB1.out).out.mono ?_; rintro e w2 ⟨rfl, hd⟩; have HB2 := Aside0.mk (below_step HB1.out hd); clear hd))
          go_ret
          exact ⟨by rw [HR.out]; rfl, HB2.out⟩
        | false =>
          have HV := Aside0.mk hv2
          rw [hv2] at HC2
          clear HC hv hv2
          go_wp2_with (first
            | (go_at_call 33; with_reducible refine HC1.out.mono ?_; rintro e w1 ⟨rfl, hd⟩; have HB1 := Aside0.mk (below_step HB.out hd); have m0 := (HK.out _ HB1.out).1; have m1 := (HK.out _ HB1.out).2; clear hd)
            | (go_at_call 33; with_reducible refine (HC2 _ HB1.out).out.mono ?_; rintro e w2 ⟨rfl, hd⟩; have HB2 := Aside0.mk (below_step HB1.out hd); clear hd))
          go_roundg (n - (i + 1))
          case measure => omega
          case rel => exact ⟨i + 1, by omega, by omega, by go_num, ⟨fun j hj => by
            rcases Nat.lt_or_ge j i with h | h
            · exact HN.out j h
            · rw [show j = i by omega, HV.out]; simp⟩, HB2⟩
    · have hlt2 : ¬ (((2 * i : Nat) : Int) < (n : Int)) := by omega
      have HR := Aside0.mk (HF.out fun j hj h => HN.out j (by omega) h)
      clear HC
      go_wp2
      go_ret
      exact ⟨by rw [HR.out]; rfl, HB.out⟩

set_option maxHeartbeats 8000000 in
set_option maxRecDepth 100000 in
theorem impl_SumDouble.calls (s : ByteArray) (r1 : ByteArray) (r2 : Bool) (w : World) (h : impl_SumDouble.f s = some (r1, r2)) :
    Calls Try.prog 10 #[.string s] w fun e w' => e = .returned (.tuple #[.string r1, .bool r2]) ∧ Below w.heap.size w w' := by
  unfold impl_SumDouble.f at h
  split at h
  rotate_left
  · cases h
  rename_i hs
  simp only [Option.some.injEq] at h
  have hR : r1 = (dbr (chrs s)).1 ∧ r2 = (dbr (chrs s)).2 := by rw [h]; exact ⟨rfl, rfl⟩
  obtain ⟨rfl, rfl⟩ := hR
  clear h
  obtain ⟨x, y, hev, hxy⟩ := small_f s hs
  obtain ⟨k, hk⟩ := hev.rounds
  have hu := Try.underlying42
  clear hev
  cases hb : smallB (chrs s) with
  | true =>
    rw [hb] at hk
    have HK := fun w => Aside0.mk (impl_small.calls k s x y true w hk)
    obtain ⟨a, c, hp, hset, hm1, hm2, hpos, hper⟩ := smallB_ok hb
    obtain ⟨rfl, rfl⟩ := hxy (by rw [hp]; rfl)
    have e : dbr (chrs s) = txt (cn (dblq (setf (chrs s)))) := by unfold dbr; rw [hb]; rfl
    rw [e]
    have hh1 : hasB (cn (setf (chrs s))).1 (cn (setf (chrs s))).2 = setf (chrs s) := by rw [hset]; exact cn_has (parse_per hp).1 (parse_per hp).2
    generalize (cn (setf (chrs s))).1 = x at *
    generalize (cn (setf (chrs s))).2 = y at *
    have hper3 : Per (dblq (setf (chrs s))) 200 y.length := (dblq_per hper).mono (by omega)
    rw [← hh1] at hper3 ⊢
    have eg : ∀ args w, (callFunc 32 args).run Try.prog w = .ok (.enter 32 args) w := enters_of Try.func32 (by kernel_rfl) rfl
    have HM := fun (lb : Array Value) (w : World) => Aside0.mk (made_calls (dblq (hasB x y)) 200 y.length hpos hper3 (by omega) 32 lb w eg)
    have HQ := Aside0.mk (show (x.length ≤ 8 ∧ y.length ≤ 8) ∧ y ≠ [] from ⟨⟨hm1, hm2⟩, List.length_pos_iff.1 hpos⟩)
    clear hb hp hxy hk hper hper3 eg hpos e hh1 hset hm1 hm2
    go_enter Try.func10, Try.ntmps10
    go_wp2_with (first
      | (go_at_call 30; refine (HK _).out.mono ?_; rintro e w1 ⟨v0_, v1_, rfl, hR0, hR1, hb1⟩; obtain ⟨A0, n0, rfl, hn0, hC0⟩ := Kd.R_reads hR0; obtain ⟨A1, n1, rfl, hn1, hC1⟩ := Kd.R_reads hR1; have C0 := Aside0.mk hC0; have C1 := Aside0.mk hC1; have N0 := Aside0.mk hn0; have N1 := Aside0.mk hn1; clear hR0 hR1 hC0 hC1 hn0 hn1; have HB := Aside0.mk hb1; clear hb1)
      | (go_at_call 31; refine ((HM _ _).out ?hc).mono ?_; (case hc =>
          intro W i hW hi
          have hq := HQ.out
          have hBW := below_step (below_alloc (Below.refl w1.heap.size w1) _) hW
          exact dbl_q_calls x y hq.2 (by omega) A0 n0 A1 n1 i w1.heap.size (by omega) W (Kd.C_below C0.out hBW) N0.out (Kd.C_below C1.out hBW) N1.out ((hW.cell (p := ⟨w1.heap.size, 0, none⟩) (by simp)).trans (by simp)) ((hW.cell (p := ⟨w1.heap.size, 1, none⟩) (by simp)).trans (by simp))); rintro e w4 ⟨rfl, hb4⟩))
    go_ret2
    exact ⟨rfl, below_step (below_alloc HB.out _) hb4⟩
  | false =>
    rw [hb] at hk
    have HK := fun w => Aside0.mk (impl_small.calls k s x y false w hk)
    have e : dbr (chrs s) = (⟨#[]⟩, false) := by unfold dbr; rw [hb]; rfl
    rw [e]
    clear hb hk hxy e
    go_enter Try.func10, Try.ntmps10
    go_wp2_with (go_at_call 30; refine (HK _).out.mono ?_; rintro e w1 ⟨v0_, v1_, rfl, hR0, hR1, hb1⟩; obtain ⟨A0, n0, rfl, hn0, hC0⟩ := Kd.R_reads hR0; obtain ⟨A1, n1, rfl, hn1, hC1⟩ := Kd.R_reads hR1; clear hR0 hR1 hC0 hC1 hn0 hn1; have HB := Aside0.mk hb1; clear hb1)
    go_ret2
    refine ⟨rfl, ?_⟩
    repeat (first | exact HB.out | apply below_alloc | (refine below_set ?_ HB.out.size))
end Go.Proofs.Ytaebonckcbhofaa.P

namespace Go.Proofs.Ytaebonckcbhofaa.P
open Go.RowKit Go.Proofs.YtaebonckcbhofaaW.PrintWords Go.Proofs.YtaebonckcbhofaaW.PrintLast Go.Proofs.YtaebonckcbhofaaW.PrintMore
attribute [local go_sem] max2_int min2_int max_two min_two max_three min_three max_four min_four   -- for this text's walks alone
set_option linter.unusedVariables false
set_option linter.unusedSimpArgs false

/-! ### spec_DrawSumDouble: function 9 -/
def spec_DrawSumDouble.f (k : Nat) (l0 : List Int) : Option (ByteArray) := (spec_l6Open.f l0).bind fun bt131 => ((spec_l91Set.f k bt131.1 bt131.2).bind fun bt134 => (some bt134.1))
theorem spec_DrawSumDouble.mono : ∀ a0 k, LeO (spec_DrawSumDouble.f k a0) (spec_DrawSumDouble.f (k + 1) a0) := by
  intro a0 k
  unfold spec_DrawSumDouble.f
  repeat' first
      | (with_reducible exact spec_l91Set.mono _ _ _)
      | (with_reducible exact LeO.refl _)
      | (with_reducible exact LeO.none _)
      | (with_reducible refine LeO.ite ?_ ?_)
      | (with_reducible refine LeO.bind ?_ (fun _ => ?_))
      | exact spec_l91Set.mono _ _ _
      | exact LeO.none _
      | refine LeO.ite ?_ ?_
      | refine LeO.bind ?_ (fun _ => ?_)
set_option maxHeartbeats 8000000 in
set_option maxRecDepth 100000 in
theorem spec_DrawSumDouble.calls (k : Nat) (A0 : Option Addr) (c0 : Nat) (l0 : List Int) (r : ByteArray) (w : World) (hr0 : Kd.C (Kd.int .u8) w A0 l0.length l0) (hc0 : l0.length ≤ c0) (h : spec_DrawSumDouble.f k l0 = some r) :
    Calls Try.prog 9 #[.slice A0 l0.length c0] w fun e w' => e = .returned (.string r) ∧ Below w.heap.size w w' := by
  have HR0 := Aside0.mk hr0
  have HC0 := Aside0.mk hc0
  clear hr0 hc0
  have HB := Aside0.mk (Below.refl w.heap.size w)
  have H : ((spec_l6Open.f l0).bind fun bt131 => ((spec_l91Set.f k bt131.1 bt131.2).bind fun bt134 => (some bt134.1))) = some r := h
  clear h
  replace H := Option.bind_eq_some_iff.mp H
  obtain ⟨⟨t131, t132⟩, A20, H⟩ := H
  replace H : ((spec_l91Set.f k t131 t132).bind fun bt134 => (some bt134.1)) = some r := H
  have A2 := Aside0.mk A20
  clear A20
  replace H := Option.bind_eq_some_iff.mp H
  obtain ⟨⟨t134, t135⟩, A30, H⟩ := H
  replace H : (some t134) = some r := H
  have A3 := Aside0.mk A30
  clear A30
  obtain rfl := Option.some.inj H
  go_enter Try.func9, Try.ntmps9
  go_wp2_with (first | ((with_reducible refine gate_callee (f := 28) rfl ?_); refine goesL_ (some 5) rfl rfl Try.func28 (by kernel_rfl) rfl #[.slice A0 l0.length c0] rfl (by (try simp only [List.map_toArray, List.map_cons, List.map_nil]); first | done | rfl | (simp only [List.length_drop, List.length_take]; rfl)) ?_; (with_reducible refine (spec_l6Open.calls _ _ l0 t131 t132 w _ ?side1 ?side2 ?side3 A2.out).mono ?_); (case side1 => repeat (first | (with_reducible first | exact HB.out | apply below_alloc | apply pw_below_drewN | apply below_drew1) | exact HB.out)); (case side2 => exact HR0.out); (case side3 => exact HC0.out); rintro e w4 ⟨g133, rfl, hi, hb, hb2⟩; refine ⟨_, rfl, ?_⟩; have n0_ := Aside0.mk (hb); have n1_ := Aside0.mk (hi); clear HB; have HB := n0_; have HI133 := n1_; clear n0_ n1_; (try clear hb); (try clear hb2); (try clear hk); (try clear hi)) | ((with_reducible refine gate_callee (f := 29) rfl ?_); refine goesL_ (some 7) rfl rfl Try.func29 (by kernel_rfl) rfl #[.pointer (some ⟨g133, 0, none⟩)] rfl (by (try simp only [List.map_toArray, List.map_cons, List.map_nil]); first | done | rfl | (simp only [List.length_drop, List.length_take]; rfl)) ?_; (with_reducible refine (spec_l91Set.calls k g133 t131 t132 t134 t135 w _ ?side1 ?side2 A3.out).mono ?_); (case side1 => repeat (first | (with_reducible first | exact HI133.out | apply IsS73.alloc | apply IsS73.drewN | apply IsS73.drew | apply IsS73.set_1) | exact HI133.out)); (case side2 => repeat (first | (with_reducible first | exact HB.out | apply below_alloc | apply pw_below_drewN | apply below_drew1 | refine below_set ?_ (IsS73.ge HI133.out)) | exact HB.out)); rintro e w5 ⟨rfl, hi, hb, hk⟩; refine ⟨_, rfl, ?_⟩; have n0_ := Aside0.mk (hb); have n1_ := Aside0.mk (hi); clear HB; clear HI133; have HB := n0_; have HI133 := n1_; clear n0_ n1_; (try clear hb); (try clear hb2); (try clear hk); (try clear hi)))
  go_ret
  exact ⟨by first | rfl | (simp [errW_none, errW_some] <;> rfl) | (simp [*, errW_none, errW_some] <;> rfl) | (simp [errW_none, errW_some]; exact ⟨rfl, rfl⟩), by repeat (first | (with_reducible first | exact HB.out | apply below_alloc | apply pw_below_drewN | apply below_drew1 | refine below_set ?_ (IsS73.ge HI133.out)) | exact HB.out)⟩

end Go.Proofs.Ytaebonckcbhofaa.P

namespace Go.Proofs.Ytaebonckcbhofaa.P
open Go.RowKit Go.Proofs.YtaebonckcbhofaaW.PrintWords Go.Proofs.YtaebonckcbhofaaW.PrintLast Go.Proofs.YtaebonckcbhofaaW.PrintMore
attribute [local go_sem] max2_int min2_int max_two min_two max_three min_three max_four min_four   -- for this text's walks alone
set_option linter.unusedVariables false
set_option linter.unusedSimpArgs false

/-! ### spec_SumDouble: function 11 -/
def spec_SumDouble.f (k : Nat) (a0 : ByteArray) : Option (ByteArray × Bool) := (spec_l4Small.f k a0).bind fun bt362 => (if bt362.2.2 = true then ((spec_l4Sum.f k bt362.1 bt362.2.1 bt362.1 bt362.2.1 true).bind fun bt370 => (some (bt370.1, bt370.2))) else (some ((⟨#[]⟩ : ByteArray), false)))
theorem spec_SumDouble.mono : ∀ a0 k, LeO (spec_SumDouble.f k a0) (spec_SumDouble.f (k + 1) a0) := by
  intro a0 k
  unfold spec_SumDouble.f
  repeat' first
      | (with_reducible exact spec_l4Small.mono _ _)
      | (with_reducible exact spec_l4Sum.mono _ _ _ _ _ _)
      | (with_reducible exact LeO.refl _)
      | (with_reducible exact LeO.none _)
      | (with_reducible refine LeO.ite ?_ ?_)
      | (with_reducible refine LeO.bind ?_ (fun _ => ?_))
      | exact spec_l4Small.mono _ _
      | exact spec_l4Sum.mono _ _ _ _ _ _
      | exact LeO.none _
      | refine LeO.ite ?_ ?_
      | refine LeO.bind ?_ (fun _ => ?_)
set_option maxHeartbeats 8000000 in
set_option maxRecDepth 100000 in
theorem spec_SumDouble.calls (k : Nat) (a0 : ByteArray) (r1 : ByteArray) (r2 : Bool) (w : World) (h : spec_SumDouble.f k a0 = some (r1, r2)) :
    Calls Try.prog 11 #[.string a0] w fun e w' => e = .returned (.tuple #[.string r1, .bool r2]) ∧ Below w.heap.size w w' := by
  have hu48 := Try.underlying48
  have HB := Aside0.mk (Below.refl w.heap.size w)
  have H : ((spec_l4Small.f k a0).bind fun bt362 => (if bt362.2.2 = true then ((spec_l4Sum.f k bt362.1 bt362.2.1 bt362.1 bt362.2.1 true).bind fun bt370 => (some (bt370.1, bt370.2))) else (some ((⟨#[]⟩ : ByteArray), false)))) = some (r1, r2) := h
  clear h
  replace H := Option.bind_eq_some_iff.mp H
  obtain ⟨⟨t362, t365, t368⟩, A20, H⟩ := H
  replace H : (if t368 = true then ((spec_l4Sum.f k t362 t365 t362 t365 true).bind fun bt370 => (some (bt370.1, bt370.2))) else (some ((⟨#[]⟩ : ByteArray), false))) = some (r1, r2) := H
  have A2 := Aside0.mk A20
  clear A20
  by_cases c3 : t368 = true
  · subst c3
    have H1 : ((spec_l4Sum.f k t362 t365 t362 t365 true).bind fun bt370 => (some (bt370.1, bt370.2))) = some (r1, r2) := by rw [if_pos rfl] at H; exact H
    clear H
    have H := H1
    clear H1
    replace H := Option.bind_eq_some_iff.mp H
    obtain ⟨⟨t370, t371⟩, A40, H⟩ := H
    replace H : (some (t370, t371)) = some (r1, r2) := H
    have A4 := Aside0.mk A40
    clear A40
    simp only [Option.some.injEq, Prod.mk.injEq] at H
    obtain ⟨rfl, rfl⟩ := H
    go_enter Try.func11, Try.ntmps11
    go_wp2_with (first | ((with_reducible refine gate_callee (f := 34) rfl ?_); refine goesL_ (some 8) rfl rfl Try.func34 (by kernel_rfl) rfl #[.string a0] rfl (by (try simp only [List.map_toArray, List.map_cons, List.map_nil]); first | done | rfl | (simp only [List.length_drop, List.length_take]; rfl)) ?_; (with_reducible refine (spec_l4Small.calls k a0 t362 t365 true _ A2.out).mono ?_); rintro e w5 ⟨v363, v366, rfl, ho0, ho1, hb⟩; refine ⟨_, rfl, ?_⟩; have n0_ := Aside0.mk (Kd.V_lower (Kd.V_mono (ok' := fun k_ => True) ho0 (fun k_ hk_ => trivial)) (below_size (by repeat (first | (with_reducible first | exact HB.out | apply below_alloc | apply pw_below_drewN | apply below_drew1) | exact HB.out)))); have n1_ := Aside0.mk (Kd.V_lower (Kd.V_mono (ok' := fun k_ => True) ho1 (fun k_ hk_ => trivial)) (below_size (by repeat (first | (with_reducible first | exact HB.out | apply below_alloc | apply pw_below_drewN | apply below_drew1) | exact HB.out)))); have n2_ := Aside0.mk (below_step (by repeat (first | (with_reducible first | exact HB.out | apply below_alloc | apply pw_below_drewN | apply below_drew1) | exact HB.out)) hb); clear HB; have HO364 := n0_; have HO367 := n1_; have HB := n2_; clear n0_ n1_ n2_; (try clear hb); (try clear hb2); (try clear hk); (try clear hi); (try clear ho0); (try clear ho1)) | ((with_reducible refine gate_dst (N := 4) rfl ?_); refine box_event ?hg (N := 4) ?hd (cs := #[.slice none 0 0, .slice none 0 0]) (t := 48) ?hr ?_; (case hd => rfl); (case hg => rfl); (case hr => first | (go_simp; done) | (go_simp; rfl)); intro gb369 hg w6 hbox hb; have n0_ := Aside0.mk (Kd.V_below (Kd.V_elderB (by (with_reducible repeat (first | apply Kd.V_alloc | apply Kd.V_drewN | apply Kd.V_drew)); exact HO364.out) gb369 (Nat.le_of_eq hg.symm)) hb); have n1_ := Aside0.mk (Kd.V_below (Kd.V_elderB (by (with_reducible repeat (first | apply Kd.V_alloc | apply Kd.V_drewN | apply Kd.V_drew)); exact HO367.out) gb369 (Nat.le_of_eq hg.symm)) hb); have n2_ := Aside0.mk (below_step (by repeat (first | (with_reducible first | exact HB.out | apply below_alloc | apply pw_below_drewN | apply below_drew1) | exact HB.out)) hb); have n3_ := Aside0.mk (hbox); have n4_ := Aside0.mk ((by rw [hg]; exact (below_size (by repeat (first | (with_reducible first | exact HB.out | apply below_alloc | apply pw_below_drewN | apply below_drew1) | exact HB.out))) : w.heap.size ≤ gb369)); have n5_ := Aside0.mk ((by rw [hg]; exact (below_size (by repeat (first | (with_reducible first | exact HB.out | apply below_alloc | apply pw_below_drewN | apply below_drew1) | exact HB.out))) : w.heap.size ≤ gb369)); clear HO364; clear HO367; clear HB; have HO364 := n0_; have HO367 := n1_; have HB := n2_; have BK369 := n3_; have GW369 := n4_; have GE369 := n5_; clear n0_ n1_ n2_ n3_ n4_ n5_; clear hb hbox hg; obtain ⟨Ao7, co7, eo7⟩ := Kd.V_slice HO364.out; subst eo7; have hcz8_0 : w6.cell? ⟨gb369, 0, none⟩ = some (.slice none 0 0) := (blk_cell BK369.out 0).trans rfl; have hcz8_1 : w6.cell? ⟨gb369, 1, none⟩ = some (.slice none 0 0) := (blk_cell BK369.out 1).trans rfl; have hfz8_0 := blk_frozen BK369.out 0; have hfz8_1 := blk_frozen BK369.out 1; obtain ⟨Ao9, co9, eo9⟩ := Kd.V_slice HO367.out; subst eo9) | ((with_reducible refine gate_callee (f := 35) rfl ?_); refine goesL_ (some 15) rfl rfl Try.func35 (by kernel_rfl) rfl #[.agg #[.slice Ao7 t362.length co7, .slice Ao9 t365.length co9], .agg #[.slice Ao7 t362.length co7, .slice Ao9 t365.length co9], .bool true] rfl (by (try simp only [List.map_toArray, List.map_cons, List.map_nil]); first | done | rfl | (simp only [List.length_drop, List.length_take]; rfl)) ?_; (with_reducible refine (spec_l4Sum.calls k _ _ t362 _ _ t365 _ _ t362 _ _ t365 true t370 t371 _ ?side1 ?side2 ?side3 ?side4 ?side5 ?side6 ?side7 ?side8 A4.out).mono ?_); (case side1 => refine (Kd.V_reads' (e := 4) (base := w.heap.size) (ok := fun k_ => (True ∧ k_ ≠ gb369)) (n := t362.length) (c := co7) ?_).2.2; exact (by (with_reducible repeat (first | apply Kd.V_alloc | apply Kd.V_drewN | apply Kd.V_drew)); exact (Kd.V_mono (Kd.V_far (p := ⟨gb369, 1, none⟩) (Kd.V_far (p := ⟨gb369, 0, none⟩) (Kd.V_mono HO364.out (fun k_ hk => (⟨hk, hk.2⟩ : _ ∧ k_ ≠ gb369))) (fun _ hk => hk.2) (.slice Ao7 t362.length co7)) (fun _ hk => hk.2) (.slice Ao9 t365.length co9)) (fun _ h_ => h_.1)))); (case side2 => exact (Kd.V_reads' HO364.out).2.1); (case side3 => refine (Kd.V_reads' (e := 4) (base := w.heap.size) (ok := fun k_ => (True ∧ k_ ≠ gb369)) (n := t365.length) (c := co9) ?_).2.2; exact (by (with_reducible repeat (first | apply Kd.V_alloc | apply Kd.V_drewN | apply Kd.V_drew)); exact (Kd.V_mono (Kd.V_far (p := ⟨gb369, 1, none⟩) (Kd.V_far (p := ⟨gb369, 0, none⟩) (Kd.V_mono HO367.out (fun k_ hk => (⟨hk, hk.2⟩ : _ ∧ k_ ≠ gb369))) (fun _ hk => hk.2) (.slice Ao7 t362.length co7)) (fun _ hk => hk.2) (.slice Ao9 t365.length co9)) (fun _ h_ => h_.1)))); (case side4 => exact (Kd.V_reads' HO367.out).2.1); (case side5 => refine (Kd.V_reads' (e := 4) (base := w.heap.size) (ok := fun k_ => (True ∧ k_ ≠ gb369)) (n := t362.length) (c := co7) ?_).2.2; exact (by (with_reducible repeat (first | apply Kd.V_alloc | apply Kd.V_drewN | apply Kd.V_drew)); exact (Kd.V_mono (Kd.V_far (p := ⟨gb369, 1, none⟩) (Kd.V_far (p := ⟨gb369, 0, none⟩) (Kd.V_mono HO364.out (fun k_ hk => (⟨hk, hk.2⟩ : _ ∧ k_ ≠ gb369))) (fun _ hk => hk.2) (.slice Ao7 t362.length co7)) (fun _ hk => hk.2) (.slice Ao9 t365.length co9)) (fun _ h_ => h_.1)))); (case side6 => exact (Kd.V_reads' HO364.out).2.1); (case side7 => refine (Kd.V_reads' (e := 4) (base := w.heap.size) (ok := fun k_ => (True ∧ k_ ≠ gb369)) (n := t365.length) (c := co9) ?_).2.2; exact (by (with_reducible repeat (first | apply Kd.V_alloc | apply Kd.V_drewN | apply Kd.V_drew)); exact (Kd.V_mono (Kd.V_far (p := ⟨gb369, 1, none⟩) (Kd.V_far (p := ⟨gb369, 0, none⟩) (Kd.V_mono HO367.out (fun k_ hk => (⟨hk, hk.2⟩ : _ ∧ k_ ≠ gb369))) (fun _ hk => hk.2) (.slice Ao7 t362.length co7)) (fun _ hk => hk.2) (.slice Ao9 t365.length co9)) (fun _ h_ => h_.1)))); (case side8 => exact (Kd.V_reads' HO367.out).2.1); rintro e w10 ⟨rfl, hb⟩; refine ⟨_, rfl, ?_⟩; have n0_ := Aside0.mk (Kd.V_below (by (with_reducible repeat (first | apply Kd.V_alloc | apply Kd.V_drewN | apply Kd.V_drew)); exact (Kd.V_mono (Kd.V_far (p := ⟨gb369, 1, none⟩) (Kd.V_far (p := ⟨gb369, 0, none⟩) (Kd.V_mono HO364.out (fun k_ hk => (⟨hk, hk.2⟩ : _ ∧ k_ ≠ gb369))) (fun _ hk => hk.2) (.slice Ao7 t362.length co7)) (fun _ hk => hk.2) (.slice Ao9 t365.length co9)) (fun _ h_ => h_.1))) hb); have n1_ := Aside0.mk (Kd.V_below (by (with_reducible repeat (first | apply Kd.V_alloc | apply Kd.V_drewN | apply Kd.V_drew)); exact (Kd.V_mono (Kd.V_far (p := ⟨gb369, 1, none⟩) (Kd.V_far (p := ⟨gb369, 0, none⟩) (Kd.V_mono HO367.out (fun k_ hk => (⟨hk, hk.2⟩ : _ ∧ k_ ≠ gb369))) (fun _ hk => hk.2) (.slice Ao7 t362.length co7)) (fun _ hk => hk.2) (.slice Ao9 t365.length co9)) (fun _ h_ => h_.1))) hb); have n2_ := Aside0.mk (blk_below (g := gb369) (o := .cells #[.slice Ao7 t362.length co7, .slice Ao9 t365.length co9] 48 (0, 0)) (by (with_reducible repeat (first | refine blk_drewN ?_ _ | refine blk_drew ?_ | refine blk_alloc ?_ _)); refine blk_put (cs := #[.slice Ao7 t362.length co7, .slice none 0 0]) ?_ 1 _ rfl; (with_reducible repeat (first | refine blk_drewN ?_ _ | refine blk_drew ?_ | refine blk_alloc ?_ _)); refine blk_put (cs := #[.slice none 0 0, .slice none 0 0]) ?_ 0 _ rfl; (with_reducible repeat (first | refine blk_drewN ?_ _ | refine blk_drew ?_ | refine blk_alloc ?_ _)); exact BK369.out) hb); have n3_ := Aside0.mk (below_step (by repeat (first | (with_reducible first | exact HB.out | apply below_alloc | apply pw_below_drewN | apply below_drew1 | refine below_set ?_ GE369.out) | exact HB.out)) hb); clear HO364; clear HO367; clear BK369; clear HB; have HO364 := n0_; have HO367 := n1_; have BK369 := n2_; have HB := n3_; clear n0_ n1_ n2_ n3_; (try clear hb); (try clear hb2); (try clear hk); (try clear hi)))
    go_ret2
    exact ⟨by first | rfl | (simp [errW_none, errW_some] <;> rfl) | (simp [*, errW_none, errW_some] <;> rfl) | (simp [errW_none, errW_some]; exact ⟨rfl, rfl⟩), by repeat (first | (with_reducible first | exact HB.out | apply below_alloc | apply pw_below_drewN | apply below_drew1 | refine below_set ?_ GE369.out) | exact HB.out)⟩
  · replace c3 := Bool.eq_false_iff.mpr c3
    subst c3
    have H1 : (some ((⟨#[]⟩ : ByteArray), false)) = some (r1, r2) := by rw [if_neg (show ¬ (false = true) by decide)] at H; exact H
    clear H
    have H := H1
    clear H1
    simp only [Option.some.injEq, Prod.mk.injEq] at H
    obtain ⟨rfl, rfl⟩ := H
    go_enter Try.func11, Try.ntmps11
    go_wp2_with (first | ((with_reducible refine gate_callee (f := 34) rfl ?_); refine goesL_ (some 8) rfl rfl Try.func34 (by kernel_rfl) rfl #[.string a0] rfl (by (try simp only [List.map_toArray, List.map_cons, List.map_nil]); first | done | rfl | (simp only [List.length_drop, List.length_take]; rfl)) ?_; (with_reducible refine (spec_l4Small.calls k a0 t362 t365 false _ A2.out).mono ?_); rintro e w11 ⟨v363, v366, rfl, ho0, ho1, hb⟩; refine ⟨_, rfl, ?_⟩; have n0_ := Aside0.mk (Kd.V_lower (Kd.V_mono (ok' := fun k_ => True) ho0 (fun k_ hk_ => trivial)) (below_size (by repeat (first | (with_reducible first | exact HB.out | apply below_alloc | apply pw_below_drewN | apply below_drew1) | exact HB.out)))); have n1_ := Aside0.mk (Kd.V_lower (Kd.V_mono (ok' := fun k_ => True) ho1 (fun k_ hk_ => trivial)) (below_size (by repeat (first | (with_reducible first | exact HB.out | apply below_alloc | apply pw_below_drewN | apply below_drew1) | exact HB.out)))); have n2_ := Aside0.mk (below_step (by repeat (first | (with_reducible first | exact HB.out | apply below_alloc | apply pw_below_drewN | apply below_drew1) | exact HB.out)) hb); clear HB; have HO364 := n0_; have HO367 := n1_; have HB := n2_; clear n0_ n1_ n2_; (try clear hb); (try clear hb2); (try clear hk); (try clear hi); (try clear ho0); (try clear ho1)) | ((with_reducible refine gate_dst (N := 4) rfl ?_); refine box_event ?hg (N := 4) ?hd (cs := #[.slice none 0 0, .slice none 0 0]) (t := 48) ?hr ?_; (case hd => rfl); (case hg => rfl); (case hr => first | (go_simp; done) | (go_simp; rfl)); intro gb369 hg w12 hbox hb; have n0_ := Aside0.mk (Kd.V_below (Kd.V_elderB (by (with_reducible repeat (first | apply Kd.V_alloc | apply Kd.V_drewN | apply Kd.V_drew)); exact HO364.out) gb369 (Nat.le_of_eq hg.symm)) hb); have n1_ := Aside0.mk (Kd.V_below (Kd.V_elderB (by (with_reducible repeat (first | apply Kd.V_alloc | apply Kd.V_drewN | apply Kd.V_drew)); exact HO367.out) gb369 (Nat.le_of_eq hg.symm)) hb); have n2_ := Aside0.mk (below_step (by repeat (first | (with_reducible first | exact HB.out | apply below_alloc | apply pw_below_drewN | apply below_drew1) | exact HB.out)) hb); have n3_ := Aside0.mk (hbox); have n4_ := Aside0.mk ((by rw [hg]; exact (below_size (by repeat (first | (with_reducible first | exact HB.out | apply below_alloc | apply pw_below_drewN | apply below_drew1) | exact HB.out))) : w.heap.size ≤ gb369)); have n5_ := Aside0.mk ((by rw [hg]; exact (below_size (by repeat (first | (with_reducible first | exact HB.out | apply below_alloc | apply pw_below_drewN | apply below_drew1) | exact HB.out))) : w.heap.size ≤ gb369)); clear HO364; clear HO367; clear HB; have HO364 := n0_; have HO367 := n1_; have HB := n2_; have BK369 := n3_; have GW369 := n4_; have GE369 := n5_; clear n0_ n1_ n2_ n3_ n4_ n5_; clear hb hbox hg; obtain ⟨Ao13, co13, eo13⟩ := Kd.V_slice HO364.out; subst eo13; have hcz14_0 : w12.cell? ⟨gb369, 0, none⟩ = some (.slice none 0 0) := (blk_cell BK369.out 0).trans rfl; have hcz14_1 : w12.cell? ⟨gb369, 1, none⟩ = some (.slice none 0 0) := (blk_cell BK369.out 1).trans rfl; have hfz14_0 := blk_frozen BK369.out 0; have hfz14_1 := blk_frozen BK369.out 1; obtain ⟨Ao15, co15, eo15⟩ := Kd.V_slice HO367.out; subst eo15))
    go_ret2
    exact ⟨by first | rfl | (simp [errW_none, errW_some] <;> rfl) | (simp [*, errW_none, errW_some] <;> rfl) | (simp [errW_none, errW_some]; exact ⟨rfl, rfl⟩), by repeat (first | (with_reducible first | exact HB.out | apply below_alloc | apply pw_below_drewN | apply below_drew1 | refine below_set ?_ GE369.out) | exact HB.out)⟩

end Go.Proofs.Ytaebonckcbhofaa.P

namespace Go.Proofs.Ytaebonckcbhofaa.P
open Go.RowKit Go.Proofs.YtaebonckcbhofaaW.PrintWords Go.Proofs.YtaebonckcbhofaaW.PrintLast Go.Proofs.YtaebonckcbhofaaW.PrintMore
attribute [local go_sem] max2_int min2_int max_two min_two max_three min_three max_four min_four   -- for this text's walks alone
set_option linter.unusedVariables false
set_option linter.unusedSimpArgs false

/-! ### laws_FnSumDouble: function 3 -/
mutual
noncomputable def laws_FnSumDouble.j0 : Nat → ByteArray → ByteArray → Bool → Bool → Option (Bool)
  | 0, _, _, _, _ => none
  | k + 1, x3, x4, x5, x8 => if x8 = true then (laws_FnSumDouble.j1 k x3 x4 x8 (!x5)) else (laws_FnSumDouble.j1 k x3 x4 x8 true)
noncomputable def laws_FnSumDouble.j1 : Nat → ByteArray → ByteArray → Bool → Bool → Option (Bool)
  | 0, _, _, _, _ => none
  | k + 1, x3, x4, x8, x40 => if x40 = true then (some x8) else (laws_FnSumDouble.l0 k x3 x4 0)
noncomputable def laws_FnSumDouble.l0 : Nat → ByteArray → ByteArray → Int → Option (Bool)
  | 0, _, _, _ => none
  | k + 1, x3, x4, x9 => if x9 ≤ 60 then (laws_FnSumDouble.l1 k x3 x4 x9 false 0) else (some true)
noncomputable def laws_FnSumDouble.l1 : Nat → ByteArray → ByteArray → Int → Bool → Int → Option (Bool)
  | 0, _, _, _, _, _ => none
  | k + 1, x3, x4, x9, x10, x11 => if (wrap64 (2 * x11)) < x9 then (if x10 = true then (laws_FnSumDouble.l1 k x3 x4 x9 true (wrap64 (x11 + 1))) else ((impl_SetHas.f k x3 x11).bind fun t386 => (if t386 = true then ((impl_SetHas.f k x3 (wrap64 (x9 - x11))).bind fun t387 => (laws_FnSumDouble.l1 k x3 x4 x9 t387 (wrap64 (x11 + 1)))) else (laws_FnSumDouble.l1 k x3 x4 x9 false (wrap64 (x11 + 1)))))) else ((impl_SetHas.f k x4 x9).bind fun t388 => (if (t388 != x10) = true then (some false) else (laws_FnSumDouble.l0 k x3 x4 (wrap64 (x9 + 1)))))
end
noncomputable def laws_FnSumDouble.f (k : Nat) (l0 : List Int) : Option (Bool) := if (l0.length : Int) > 1048576 then (some true) else ((spec_DrawSumDouble.f k l0).bind fun t381 => ((impl_SumDouble.f t381).bind fun bt382 => ((spec_SumDouble.f k t381).bind fun bt384 => (if bt382.1.toList = bt384.1.toList then (laws_FnSumDouble.j0 k t381 bt382.1 bt382.2 (bt382.2 == bt384.2)) else (laws_FnSumDouble.j0 k t381 bt382.1 bt382.2 false)))))
theorem laws_FnSumDouble.mono_l : ∀ k, (∀ y0 y1 y2 y3, LeO (laws_FnSumDouble.j0 k y0 y1 y2 y3) (laws_FnSumDouble.j0 (k + 1) y0 y1 y2 y3)) ∧ (∀ y0 y1 y2 y3, LeO (laws_FnSumDouble.j1 k y0 y1 y2 y3) (laws_FnSumDouble.j1 (k + 1) y0 y1 y2 y3)) ∧ (∀ y0 y1 y2, LeO (laws_FnSumDouble.l0 k y0 y1 y2) (laws_FnSumDouble.l0 (k + 1) y0 y1 y2)) ∧ (∀ y0 y1 y2 y3 y4, LeO (laws_FnSumDouble.l1 k y0 y1 y2 y3 y4) (laws_FnSumDouble.l1 (k + 1) y0 y1 y2 y3 y4))
  | 0 => ⟨fun _ _ _ _ r h => by simp [laws_FnSumDouble.j0] at h, fun _ _ _ _ r h => by simp [laws_FnSumDouble.j1] at h, fun _ _ _ r h => by simp [laws_FnSumDouble.l0] at h, fun _ _ _ _ _ r h => by simp [laws_FnSumDouble.l1] at h⟩
  | k + 1 => by
    obtain ⟨ih0, ih1, ih2, ih3⟩ := laws_FnSumDouble.mono_l k
    refine ⟨?_, ?_, ?_, ?_⟩
    · intro y0 y1 y2 y3
      unfold laws_FnSumDouble.j0
      repeat' first
      | (with_reducible exact ih0 _ _ _ _)
      | (with_reducible exact ih1 _ _ _ _)
      | (with_reducible exact ih2 _ _ _)
      | (with_reducible exact ih3 _ _ _ _ _)
      | (with_reducible exact impl_SetHas.mono _ _ _)
      | (with_reducible exact spec_DrawSumDouble.mono _ _)
      | (with_reducible exact spec_SumDouble.mono _ _)
      | (with_reducible exact LeO.refl _)
      | (with_reducible exact LeO.none _)
      | (with_reducible refine LeO.ite ?_ ?_)
      | (with_reducible refine LeO.bind ?_ (fun _ => ?_))
      | exact ih0 _ _ _ _
      | exact ih1 _ _ _ _
      | exact ih2 _ _ _
      | exact ih3 _ _ _ _ _
      | exact impl_SetHas.mono _ _ _
      | exact spec_DrawSumDouble.mono _ _
      | exact spec_SumDouble.mono _ _
      | exact LeO.none _
      | refine LeO.ite ?_ ?_
      | refine LeO.bind ?_ (fun _ => ?_)
    · intro y0 y1 y2 y3
      unfold laws_FnSumDouble.j1
      repeat' first
      | (with_reducible exact ih0 _ _ _ _)
      | (with_reducible exact ih1 _ _ _ _)
      | (with_reducible exact ih2 _ _ _)
      | (with_reducible exact ih3 _ _ _ _ _)
      | (with_reducible exact impl_SetHas.mono _ _ _)
      | (with_reducible exact spec_DrawSumDouble.mono _ _)
      | (with_reducible exact spec_SumDouble.mono _ _)
      | (with_reducible exact LeO.refl _)
      | (with_reducible exact LeO.none _)
      | (with_reducible refine LeO.ite ?_ ?_)
      | (with_reducible refine LeO.bind ?_ (fun _ => ?_))
      | exact ih0 _ _ _ _
      | exact ih1 _ _ _ _
      | exact ih2 _ _ _
      | exact ih3 _ _ _ _ _
      | exact impl_SetHas.mono _ _ _
      | exact spec_DrawSumDouble.mono _ _
      | exact spec_SumDouble.mono _ _
      | exact LeO.none _
      | refine LeO.ite ?_ ?_
      | refine LeO.bind ?_ (fun _ => ?_)
    · intro y0 y1 y2
      unfold laws_FnSumDouble.l0
      repeat' first
      | (with_reducible exact ih0 _ _ _ _)
      | (with_reducible exact ih1 _ _ _ _)
      | (with_reducible exact ih2 _ _ _)
      | (with_reducible exact ih3 _ _ _ _ _)
      | (with_reducible exact impl_SetHas.mono _ _ _)
      | (with_reducible exact spec_DrawSumDouble.mono _ _)
      | (with_reducible exact spec_SumDouble.mono _ _)
      | (with_reducible exact LeO.refl _)
      | (with_reducible exact LeO.none _)
      | (with_reducible refine LeO.ite ?_ ?_)
      | (with_reducible refine LeO.bind ?_ (fun _ => ?_))
      | exact ih0 _ _ _ _
      | exact ih1 _ _ _ _
      | exact ih2 _ _ _
      | exact ih3 _ _ _ _ _
      | exact impl_SetHas.mono _ _ _
      | exact spec_DrawSumDouble.mono _ _
      | exact spec_SumDouble.mono _ _
      | exact LeO.none _
      | refine LeO.ite ?_ ?_
      | refine LeO.bind ?_ (fun _ => ?_)
    · intro y0 y1 y2 y3 y4
      unfold laws_FnSumDouble.l1
      repeat' first
      | (with_reducible exact ih0 _ _ _ _)
      | (with_reducible exact ih1 _ _ _ _)
      | (with_reducible exact ih2 _ _ _)
      | (with_reducible exact ih3 _ _ _ _ _)
      | (with_reducible exact impl_SetHas.mono _ _ _)
      | (with_reducible exact spec_DrawSumDouble.mono _ _)
      | (with_reducible exact spec_SumDouble.mono _ _)
      | (with_reducible exact LeO.refl _)
      | (with_reducible exact LeO.none _)
      | (with_reducible refine LeO.ite ?_ ?_)
      | (with_reducible refine LeO.bind ?_ (fun _ => ?_))
      | exact ih0 _ _ _ _
      | exact ih1 _ _ _ _
      | exact ih2 _ _ _
      | exact ih3 _ _ _ _ _
      | exact impl_SetHas.mono _ _ _
      | exact spec_DrawSumDouble.mono _ _
      | exact spec_SumDouble.mono _ _
      | exact LeO.none _
      | refine LeO.ite ?_ ?_
      | refine LeO.bind ?_ (fun _ => ?_)
theorem laws_FnSumDouble.mono : ∀ a0 k, LeO (laws_FnSumDouble.f k a0) (laws_FnSumDouble.f (k + 1) a0) := by
  intro a0 k
  obtain ⟨ih0, ih1, ih2, ih3⟩ := laws_FnSumDouble.mono_l k
  unfold laws_FnSumDouble.f
  repeat' first
      | (with_reducible exact ih0 _ _ _ _)
      | (with_reducible exact ih1 _ _ _ _)
      | (with_reducible exact ih2 _ _ _)
      | (with_reducible exact ih3 _ _ _ _ _)
      | (with_reducible exact impl_SetHas.mono _ _ _)
      | (with_reducible exact spec_DrawSumDouble.mono _ _)
      | (with_reducible exact spec_SumDouble.mono _ _)
      | (with_reducible exact LeO.refl _)
      | (with_reducible exact LeO.none _)
      | (with_reducible refine LeO.ite ?_ ?_)
      | (with_reducible refine LeO.bind ?_ (fun _ => ?_))
      | exact ih0 _ _ _ _
      | exact ih1 _ _ _ _
      | exact ih2 _ _ _
      | exact ih3 _ _ _ _ _
      | exact impl_SetHas.mono _ _ _
      | exact spec_DrawSumDouble.mono _ _
      | exact spec_SumDouble.mono _ _
      | exact LeO.none _
      | refine LeO.ite ?_ ?_
      | refine LeO.bind ?_ (fun _ => ?_)
set_option maxHeartbeats 8000000 in
set_option maxRecDepth 100000 in
theorem laws_FnSumDouble.calls (k : Nat) (A0 : Option Addr) (c0 : Nat) (l0 : List Int) (r : Bool) (w : World) (hr0 : Kd.C (Kd.int .u8) w A0 l0.length l0) (hc0 : l0.length ≤ c0) (h : laws_FnSumDouble.f k l0 = some r) :
    Calls Try.prog 3 #[.slice A0 l0.length c0] w fun e w' => e = .returned (.bool r) ∧ Below w.heap.size w w' := by
  have HR0 := Aside0.mk hr0
  have HC0 := Aside0.mk hc0
  clear hr0 hc0
  have HB := Aside0.mk (Below.refl w.heap.size w)
  have H : (if (l0.length : Int) > 1048576 then (some true) else ((spec_DrawSumDouble.f k l0).bind fun t381 => ((impl_SumDouble.f t381).bind fun bt382 => ((spec_SumDouble.f k t381).bind fun bt384 => (if bt382.1.toList = bt384.1.toList then (laws_FnSumDouble.j0 k t381 bt382.1 bt382.2 (bt382.2 == bt384.2)) else (laws_FnSumDouble.j0 k t381 bt382.1 bt382.2 false)))))) = some r := h
  clear h
  by_cases c2 : (l0.length : Int) > 1048576
  · rw [if_pos c2] at H
    have c2b0 : decide (1048576 < (l0.length : Int)) = true := decide_eq_true c2
    have c2b1 : decide (1048576 < l0.length) = true := decide_eq_true (by omega)
    clear c2
    obtain rfl := Option.some.inj H
    go_enter Try.func3, Try.ntmps3
    go_wp2
    go_ret
    exact ⟨by first | rfl | (simp [errW_none, errW_some] <;> rfl) | (simp [*, errW_none, errW_some] <;> rfl) | (simp [errW_none, errW_some]; exact ⟨rfl, rfl⟩), by repeat (first | (with_reducible first | exact HB.out | apply below_alloc | apply pw_below_drewN | apply below_drew1) | exact HB.out)⟩
  · rw [if_neg c2] at H
    have c2b0 : decide (1048576 < (l0.length : Int)) = false := decide_eq_false c2
    have c2b1 : decide (1048576 < l0.length) = false := decide_eq_false (by omega)
    clear c2
    replace H := Option.bind_eq_some_iff.mp H
    obtain ⟨t381, A30, H⟩ := H
    replace H : ((impl_SumDouble.f t381).bind fun bt382 => ((spec_SumDouble.f k t381).bind fun bt384 => (if bt382.1.toList = bt384.1.toList then (laws_FnSumDouble.j0 k t381 bt382.1 bt382.2 (bt382.2 == bt384.2)) else (laws_FnSumDouble.j0 k t381 bt382.1 bt382.2 false)))) = some r := H
    have A3 := Aside0.mk A30
    clear A30
    replace H := Option.bind_eq_some_iff.mp H
    obtain ⟨⟨t382, t383⟩, A40, H⟩ := H
    replace H : ((spec_SumDouble.f k t381).bind fun bt384 => (if t382.toList = bt384.1.toList then (laws_FnSumDouble.j0 k t381 t382 t383 (t383 == bt384.2)) else (laws_FnSumDouble.j0 k t381 t382 t383 false))) = some r := H
    have A4 := Aside0.mk A40
    clear A40
    replace H := Option.bind_eq_some_iff.mp H
    obtain ⟨⟨t384, t385⟩, A50, H⟩ := H
    replace H : (if t382.toList = t384.toList then (laws_FnSumDouble.j0 k t381 t382 t383 (t383 == t385)) else (laws_FnSumDouble.j0 k t381 t382 t383 false)) = some r := H
    have A5 := Aside0.mk A50
    clear A50
    have HC6 := Aside0.mk H
    clear H
    go_enter Try.func3, Try.ntmps3
    go_upto_region 6 with (first | ((with_reducible refine gate_callee (f := 9) rfl ?_); refine goesL_ (some 16) rfl rfl Try.func9 (by kernel_rfl) rfl #[.slice A0 l0.length c0] rfl (by (try simp only [List.map_toArray, List.map_cons, List.map_nil]); first | done | rfl | (simp only [List.length_drop, List.length_take]; rfl)) ?_; (with_reducible refine (spec_DrawSumDouble.calls k _ _ l0 t381 _ ?side1 ?side2 A3.out).mono ?_); (case side1 => repeat (first | exact HR0.out | (with_reducible refine Kd.C_alloc ?_ _) | (with_reducible refine Kd.C_drewN ?_ _) | (with_reducible refine Kd.C_drew ?_))); (case side2 => exact HC0.out); rintro e w7 ⟨rfl, hb⟩; refine ⟨_, rfl, ?_⟩; have n0_ := Aside0.mk (below_step (by repeat (first | (with_reducible first | exact HB.out | apply below_alloc | apply pw_below_drewN | apply below_drew1) | exact HB.out)) hb); clear HB; have HB := n0_; clear n0_; (try clear hb); (try clear hb2); (try clear hk); (try clear hi)) | ((with_reducible refine gate_callee (f := 10) rfl ?_); refine goesL_ (some 19) rfl rfl Try.func10 (by kernel_rfl) rfl #[.string t381] rfl (by (try simp only [List.map_toArray, List.map_cons, List.map_nil]); first | done | rfl | (simp only [List.length_drop, List.length_take]; rfl)) ?_; (with_reducible refine (impl_SumDouble.calls t381 t382 t383 _ A4.out).mono ?_); rintro e w8 ⟨rfl, hb⟩; refine ⟨_, rfl, ?_⟩; have n0_ := Aside0.mk (below_step (by repeat (first | (with_reducible first | exact HB.out | apply below_alloc | apply pw_below_drewN | apply below_drew1) | exact HB.out)) hb); clear HB; have HB := n0_; clear n0_; (try clear hb); (try clear hb2); (try clear hk); (try clear hi)) | ((with_reducible refine gate_callee (f := 11) rfl ?_); refine goesL_ (some 24) rfl rfl Try.func11 (by kernel_rfl) rfl #[.string t381] rfl (by (try simp only [List.map_toArray, List.map_cons, List.map_nil]); first | done | rfl | (simp only [List.length_drop, List.length_take]; rfl)) ?_; (with_reducible refine (spec_SumDouble.calls k t381 t384 t385 _ A5.out).mono ?_); rintro e w9 ⟨rfl, hb⟩; refine ⟨_, rfl, ?_⟩; have n0_ := Aside0.mk (below_step (by repeat (first | (with_reducible first | exact HB.out | apply below_alloc | apply pw_below_drewN | apply below_drew1) | exact HB.out)) hb); clear HB; have HB := n0_; clear n0_; (try clear hb); (try clear hb2); (try clear hk); (try clear hi)))
    (try simp only [Act.put, List.setIfInBounds_toArray, List.set_cons_zero, List.set_cons_succ])
    go_cut [8] (fun v8 wc => ∃ (kq : Nat) (x8_5 : Bool), v8 = .bool x8_5 ∧ Aside0 (laws_FnSumDouble.j0 kq t381 t382 t383 x8_5 = some r) ∧ Aside0 (kq ≤ k) ∧ Aside0 (Below w.heap.size w wc))
    case first =>
      have H := HC6.out
      clear HC6
      by_cases c10 : t382.toList = t384.toList
      · rw [if_pos c10] at H
        have c10b0 : (t382.toList == t384.toList) = true := beq_iff_eq.mpr c10
        have c10b1 : (t382.toList != t384.toList) = false := bne_eq_false_iff_eq.mpr c10
        clear c10
        (first | rw [c10b0] | (simp only [i64_w, i32_w]; rw [c10b0]) | skip)
        have H' := Aside0.mk H
        clear H
        go_wp2
        go_meet
        case rel => exact ⟨_, ((t383 == t385)), (by first | rfl | (simp; done) | (simp [*]; done) | (simp [Int.tmod_eq_emod_of_nonneg]; done)), H', ⟨by first | omega | exact Nat.le_refl _⟩, ⟨by repeat (first | (with_reducible first | exact HB.out | apply below_alloc | apply pw_below_drewN | apply below_drew1) | exact HB.out)⟩⟩
      · rw [if_neg c10] at H
        have c10b0 : (t382.toList == t384.toList) = false := beq_eq_false_iff_ne.mpr c10
        have c10b1 : (t382.toList != t384.toList) = true := bne_iff_ne.mpr c10
        (first | rw [c10b0] | (simp only [i64_w, i32_w]; rw [c10b0]) | skip)
        have H' := Aside0.mk H
        clear H
        go_wp2
        go_meet
        case rel => exact ⟨_, (false), (by first | rfl | (simp; done) | (simp [*]; done) | (simp [Int.tmod_eq_emod_of_nonneg]; done)), H', ⟨by first | omega | exact Nat.le_refl _⟩, ⟨by repeat (first | (with_reducible first | exact HB.out | apply below_alloc | apply pw_below_drewN | apply below_drew1) | exact HB.out)⟩⟩
    case rest =>
      clear HC6
      try clear c1
      try clear c2
      try clear c2b0
      try clear c2b1
      try clear p2
      try clear c3
      try clear c9
      try clear c10
      try clear c10b0
      try clear c10b1
      obtain ⟨kq, x8_5, rfl, HA, HJ5, HB⟩ := hcut
      cases kq with
      | zero => exact absurd HA.out (by simp [laws_FnSumDouble.j0])
      | succ kj5 =>
        have H := HA.out
        clear HA
        simp only [laws_FnSumDouble.j0] at H
        have HC11 := Aside0.mk H
        clear H
        go_upto_region 7 with (fail)
        go_cut [40] (fun v40 wc => ∃ (kq : Nat) (x40_10 : Bool), v40 = .bool x40_10 ∧ Aside0 (laws_FnSumDouble.j1 kq t381 t382 x8_5 x40_10 = some r) ∧ Aside0 (kq ≤ kj5) ∧ Aside0 (Below w.heap.size w wc))
        case first =>
          have H := HC11.out
          clear HC11
          by_cases c12 : x8_5 = true
          · subst c12
            have H1 : (laws_FnSumDouble.j1 kj5 t381 t382 true (!t383)) = some r := by rw [if_pos rfl] at H; exact H
            clear H
            have H := H1
            clear H1
            have H' := Aside0.mk H
            clear H
            go_wp2
            go_meet
            case rel => exact ⟨_, (!t383), (by first | rfl | (simp; done) | (simp [*]; done) | (simp [Int.tmod_eq_emod_of_nonneg]; done)), H', ⟨by have := HJ5.out; first | omega | exact Nat.le_refl _⟩, ⟨by repeat (first | (with_reducible first | exact HB.out | apply below_alloc | apply pw_below_drewN | apply below_drew1) | exact HB.out)⟩⟩
          · replace c12 := Bool.eq_false_iff.mpr c12
            subst c12
            have H1 : (laws_FnSumDouble.j1 kj5 t381 t382 false true) = some r := by rw [if_neg (show ¬ (false = true) by decide)] at H; exact H
            clear H
            have H := H1
            clear H1
            have H' := Aside0.mk H
            clear H
            go_wp2
            go_meet
            case rel => exact ⟨_, (true), (by first | rfl | (simp; done) | (simp [*]; done) | (simp [Int.tmod_eq_emod_of_nonneg]; done)), H', ⟨by have := HJ5.out; first | omega | exact Nat.le_refl _⟩, ⟨by repeat (first | (with_reducible first | exact HB.out | apply below_alloc | apply pw_below_drewN | apply below_drew1) | exact HB.out)⟩⟩
        case rest =>
          clear HC11
          try clear c1
          try clear c2
          try clear c2b0
          try clear c2b1
          try clear p2
          try clear c3
          try clear c9
          try clear c10
          try clear c10b0
          try clear c10b1
          try clear c11
          try clear c12
          try clear p2
          obtain ⟨kq, x40_10, rfl, HA, HJ10, HB⟩ := hcut
          cases kq with
          | zero => exact absurd HA.out (by simp [laws_FnSumDouble.j1])
          | succ kj10 =>
            have H := HA.out
            clear HA
            simp only [laws_FnSumDouble.j1] at H
            by_cases c13 : x40_10 = true
            · subst c13
              have H1 : (some x8_5) = some r := by rw [if_pos rfl] at H; exact H
              clear H
              have H := H1
              clear H1
              obtain rfl := Option.some.inj H
              go_wp2
              go_ret
              exact ⟨by first | rfl | (simp [errW_none, errW_some] <;> rfl) | (simp [*, errW_none, errW_some] <;> rfl) | (simp [errW_none, errW_some]; exact ⟨rfl, rfl⟩), by repeat (first | (with_reducible first | exact HB.out | apply below_alloc | apply pw_below_drewN | apply below_drew1) | exact HB.out)⟩
            · replace c13 := Bool.eq_false_iff.mpr c13
              subst c13
              have H1 : (laws_FnSumDouble.l0 kj10 t381 t382 0) = some r := by rw [if_neg (show ¬ (false = true) by decide)] at H; exact H
              clear H
              have H := H1
              clear H1
              have H' := Aside0.mk H
              clear H
              go_wp2
              go_loopg [9] kj10 (fun kq v9 w' => ∃ (x9_3 : Int), v9 = .int .i64 x9_3 ∧ Aside0 (laws_FnSumDouble.l0 kq t381 t382 x9_3 = some r) ∧ Aside0 (kq ≤ kj10) ∧ Aside0 (Below w.heap.size w w'))
              case atStart => exact ⟨(0), (by first | rfl | (simp; done) | (simp [*]; done) | (simp [Int.tmod_eq_emod_of_nonneg]; done)), H', ⟨Nat.le_refl _⟩, ⟨by repeat (first | (with_reducible first | exact HB.out | apply below_alloc | apply pw_below_drewN | apply below_drew1) | exact HB.out)⟩⟩
              case round =>
                clear H'
                try clear c1
                try clear c2
                try clear c2b0
                try clear c2b1
                try clear p2
                try clear c3
                try clear c9
                try clear c10
                try clear c10b0
                try clear c10b1
                try clear c11
                try clear c12
                try clear c13
                try clear p2
                obtain ⟨x9_3, rfl, HA, HK3, HB⟩ := hrel
                cases gk with
                | zero => exact absurd HA.out (by simp [laws_FnSumDouble.l0])
                | succ k3 =>
                  have H := HA.out
                  clear HA
                  simp only [laws_FnSumDouble.l0] at H
                  by_cases c14 : x9_3 ≤ 60
                  · rw [if_pos c14] at H
                    have c14b0 : decide (x9_3 ≤ 60) = true := decide_eq_true c14
                    clear c14
                    have H' := Aside0.mk H
                    clear H
                    go_wp2
                    go_loopg [10, 11] k3 (fun kq v10 v11 w' => ∃ (x10_4 : Bool) (x11_4 : Int), v10 = .bool x10_4 ∧ v11 = .int .i64 x11_4 ∧ Aside0 (laws_FnSumDouble.l1 kq t381 t382 x9_3 x10_4 x11_4 = some r) ∧ Aside0 (kq ≤ k3) ∧ Aside0 (Below w.heap.size w w'))
                    case atStart => exact ⟨(false), (0), (by first | rfl | (simp; done) | (simp [*]; done) | (simp [Int.tmod_eq_emod_of_nonneg]; done)), (by first | rfl | (simp; done) | (simp [*]; done) | (simp [Int.tmod_eq_emod_of_nonneg]; done)), H', ⟨Nat.le_refl _⟩, ⟨by repeat (first | (with_reducible first | exact HB.out | apply below_alloc | apply pw_below_drewN | apply below_drew1) | exact HB.out)⟩⟩
                    case round =>
                      clear H'
                      try clear c1
                      try clear c2
                      try clear c2b0
                      try clear c2b1
                      try clear p2
                      try clear c3
                      try clear c9
                      try clear c10
                      try clear c10b0
                      try clear c10b1
                      try clear c11
                      try clear c12
                      try clear c13
                      try clear c14
                      try clear c14b0
                      try clear p2
                      obtain ⟨x10_4, x11_4, rfl, rfl, HA, HK4, HB⟩ := hrel
                      cases gk with
                      | zero => exact absurd HA.out (by simp [laws_FnSumDouble.l1])
                      | succ k4 =>
                        have H := HA.out
                        clear HA
                        simp only [laws_FnSumDouble.l1] at H
                        by_cases c15 : (wrap64 (2 * x11_4)) < x9_3
                        · rw [if_pos c15] at H
                          have c15b0 : decide ((wrap64 (2 * x11_4)) < x9_3) = true := decide_eq_true c15
                          clear c15
                          by_cases c16 : x10_4 = true
                          · subst c16
                            have H1 : (laws_FnSumDouble.l1 k4 t381 t382 x9_3 true (wrap64 (x11_4 + 1))) = some r := by rw [if_pos rfl] at H; exact H
                            clear H
                            have H := H1
                            clear H1
                            have H' := Aside0.mk H
                            clear H
                            go_wp2
                            go_roundg k4
                            case measure => have := HJ5.out; have := HJ10.out; have := HK3.out; have := HK4.out; omega
                            case rel => exact ⟨(true), (wrap64 (x11_4 + 1)), (by first | rfl | (simp; done) | (simp [*]; done) | (simp [Int.tmod_eq_emod_of_nonneg]; done)), (by first | rfl | (simp; done) | (simp [*]; done) | (simp [Int.tmod_eq_emod_of_nonneg]; done)), H', ⟨by have := HJ5.out; have := HJ10.out; have := HK3.out; have := HK4.out; omega⟩, ⟨by repeat (first | (with_reducible first | exact HB.out | apply below_alloc | apply pw_below_drewN | apply below_drew1) | exact HB.out)⟩⟩
                          · replace c16 := Bool.eq_false_iff.mpr c16
                            subst c16
                            have H1 : ((impl_SetHas.f k4 t381 x11_4).bind fun t386 => (if t386 = true then ((impl_SetHas.f k4 t381 (wrap64 (x9_3 - x11_4))).bind fun t387 => (laws_FnSumDouble.l1 k4 t381 t382 x9_3 t387 (wrap64 (x11_4 + 1)))) else (laws_FnSumDouble.l1 k4 t381 t382 x9_3 false (wrap64 (x11_4 + 1))))) = some r := by rw [if_neg (show ¬ (false = true) by decide)] at H; exact H
                            clear H
                            have H := H1
                            clear H1
                            replace H := Option.bind_eq_some_iff.mp H
                            obtain ⟨t386, A170, H⟩ := H
                            replace H : (if t386 = true then ((impl_SetHas.f k4 t381 (wrap64 (x9_3 - x11_4))).bind fun t387 => (laws_FnSumDouble.l1 k4 t381 t382 x9_3 t387 (wrap64 (x11_4 + 1)))) else (laws_FnSumDouble.l1 k4 t381 t382 x9_3 false (wrap64 (x11_4 + 1)))) = some r := H
                            have A17 := Aside0.mk A170
                            clear A170
                            by_cases c18 : t386 = true
                            · subst c18
                              have H1 : ((impl_SetHas.f k4 t381 (wrap64 (x9_3 - x11_4))).bind fun t387 => (laws_FnSumDouble.l1 k4 t381 t382 x9_3 t387 (wrap64 (x11_4 + 1)))) = some r := by rw [if_pos rfl] at H; exact H
                              clear H
                              have H := H1
                              clear H1
                              replace H := Option.bind_eq_some_iff.mp H
                              obtain ⟨t387, A190, H⟩ := H
                              replace H : (laws_FnSumDouble.l1 k4 t381 t382 x9_3 t387 (wrap64 (x11_4 + 1))) = some r := H
                              have A19 := Aside0.mk A190
                              clear A190
                              have H' := Aside0.mk H
                              clear H
                              go_wp2_with (first | (go_at_call 12; (with_reducible refine (impl_SetHas.calls k4 t381 x11_4 true _ A17.out).mono ?_); rintro e w20 ⟨rfl, hb⟩; have n0_ := Aside0.mk (below_step (by repeat (first | (with_reducible first | exact HB.out | apply below_alloc | apply pw_below_drewN | apply below_drew1) | exact HB.out)) hb); clear HB; have HB := n0_; clear n0_; (try clear hb); (try clear hb2); (try clear hk); (try clear hi)) | (go_at_call 12; (with_reducible refine (impl_SetHas.calls k4 t381 (wrap64 (x9_3 - x11_4)) t387 _ A19.out).mono ?_); rintro e w21 ⟨rfl, hb⟩; have n0_ := Aside0.mk (below_step (by repeat (first | (with_reducible first | exact HB.out | apply below_alloc | apply pw_below_drewN | apply below_drew1) | exact HB.out)) hb); clear HB; have HB := n0_; clear n0_; (try clear hb); (try clear hb2); (try clear hk); (try clear hi)))
                              go_roundg k4
                              case measure => have := HJ5.out; have := HJ10.out; have := HK3.out; have := HK4.out; omega
                              case rel => exact ⟨(t387), (wrap64 (x11_4 + 1)), (by first | rfl | (simp; done) | (simp [*]; done) | (simp [Int.tmod_eq_emod_of_nonneg]; done)), (by first | rfl | (simp; done) | (simp [*]; done) | (simp [Int.tmod_eq_emod_of_nonneg]; done)), H', ⟨by have := HJ5.out; have := HJ10.out; have := HK3.out; have := HK4.out; omega⟩, ⟨by repeat (first | (with_reducible first | exact HB.out | apply below_alloc | apply pw_below_drewN | apply below_drew1) | exact HB.out)⟩⟩
                            · replace c18 := Bool.eq_false_iff.mpr c18
                              subst c18
                              have H1 : (laws_FnSumDouble.l1 k4 t381 t382 x9_3 false (wrap64 (x11_4 + 1))) = some r := by rw [if_neg (show ¬ (false = true) by decide)] at H; exact H
                              clear H
                              have H := H1
                              clear H1
                              have H' := Aside0.mk H
                              clear H
                              go_wp2_with (first | (go_at_call 12; (with_reducible refine (impl_SetHas.calls k4 t381 x11_4 false _ A17.out).mono ?_); rintro e w22 ⟨rfl, hb⟩; have n0_ := Aside0.mk (below_step (by repeat (first | (with_reducible first | exact HB.out | apply below_alloc | apply pw_below_drewN | apply below_drew1) | exact HB.out)) hb); clear HB; have HB := n0_; clear n0_; (try clear hb); (try clear hb2); (try clear hk); (try clear hi)))
                              go_roundg k4
                              case measure => have := HJ5.out; have := HJ10.out; have := HK3.out; have := HK4.out; omega
                              case rel => exact ⟨(false), (wrap64 (x11_4 + 1)), (by first | rfl | (simp; done) | (simp [*]; done) | (simp [Int.tmod_eq_emod_of_nonneg]; done)), (by first | rfl | (simp; done) | (simp [*]; done) | (simp [Int.tmod_eq_emod_of_nonneg]; done)), H', ⟨by have := HJ5.out; have := HJ10.out; have := HK3.out; have := HK4.out; omega⟩, ⟨by repeat (first | (with_reducible first | exact HB.out | apply below_alloc | apply pw_below_drewN | apply below_drew1) | exact HB.out)⟩⟩
                        · rw [if_neg c15] at H
                          have c15b0 : decide ((wrap64 (2 * x11_4)) < x9_3) = false := decide_eq_false c15
                          clear c15
                          replace H := Option.bind_eq_some_iff.mp H
                          obtain ⟨t388, A230, H⟩ := H
                          replace H : (if (t388 != x10_4) = true then (some false) else (laws_FnSumDouble.l0 k4 t381 t382 (wrap64 (x9_3 + 1)))) = some r := H
                          have A23 := Aside0.mk A230
                          clear A230
                          by_cases c24 : (t388 != x10_4) = true
                          · rw [if_pos c24] at H
                            have c24b0 : (t388 != x10_4) = true := c24
                            (try (have c24b1 : decide (t388 = x10_4) = false := by simpa using c24))
                            (try (have c24b2 : (t388 == x10_4) = false := by simpa using c24))
                            (try (have c24b3 : ¬ (t388 = x10_4) := by simpa using c24))
                            clear c24
                            obtain rfl := Option.some.inj H
                            go_wp2_with (first | ((with_reducible refine gate_callee (f := 12) rfl ?_); refine goesL_ (some 67) rfl rfl Try.func12 (by kernel_rfl) rfl #[.string t382, .int .i64 x9_3] rfl (by (try simp only [List.map_toArray, List.map_cons, List.map_nil]); first | done | rfl | (simp only [List.length_drop, List.length_take]; rfl)) ?_; (with_reducible refine (impl_SetHas.calls k4 t382 x9_3 t388 _ A23.out).mono ?_); rintro e w25 ⟨rfl, hb⟩; refine ⟨_, rfl, ?_⟩; have n0_ := Aside0.mk (below_step (by repeat (first | (with_reducible first | exact HB.out | apply below_alloc | apply pw_below_drewN | apply below_drew1) | exact HB.out)) hb); clear HB; have HB := n0_; clear n0_; (try clear hb); (try clear hb2); (try clear hk); (try clear hi)))
                            go_ret
                            exact ⟨by first | rfl | (simp [errW_none, errW_some] <;> rfl) | (simp [*, errW_none, errW_some] <;> rfl) | (simp [errW_none, errW_some]; exact ⟨rfl, rfl⟩), by repeat (first | (with_reducible first | exact HB.out | apply below_alloc | apply pw_below_drewN | apply below_drew1) | exact HB.out)⟩
                          · rw [if_neg c24] at H
                            have c24b0 : (t388 != x10_4) = false := by simpa using c24
                            (try (have c24b1 : decide (t388 = x10_4) = true := by simpa using c24))
                            (try (have c24b2 : (t388 == x10_4) = true := by simpa using c24))
                            clear c24
                            have H' := Aside0.mk H
                            clear H
                            go_wp2_with (first | ((with_reducible refine gate_callee (f := 12) rfl ?_); refine goesL_ (some 67) rfl rfl Try.func12 (by kernel_rfl) rfl #[.string t382, .int .i64 x9_3] rfl (by (try simp only [List.map_toArray, List.map_cons, List.map_nil]); first | done | rfl | (simp only [List.length_drop, List.length_take]; rfl)) ?_; (with_reducible refine (impl_SetHas.calls k4 t382 x9_3 t388 _ A23.out).mono ?_); rintro e w26 ⟨rfl, hb⟩; refine ⟨_, rfl, ?_⟩; have n0_ := Aside0.mk (below_step (by repeat (first | (with_reducible first | exact HB.out | apply below_alloc | apply pw_below_drewN | apply below_drew1) | exact HB.out)) hb); clear HB; have HB := n0_; clear n0_; (try clear hb); (try clear hb2); (try clear hk); (try clear hi)))
                            go_roundg k4
                            case measure => have := HJ5.out; have := HJ10.out; have := HK3.out; have := HK4.out; omega
                            case rel => exact ⟨(wrap64 (x9_3 + 1)), (by first | rfl | (simp; done) | (simp [*]; done) | (simp [Int.tmod_eq_emod_of_nonneg]; done)), H', ⟨by have := HJ5.out; have := HJ10.out; have := HK3.out; have := HK4.out; omega⟩, ⟨by repeat (first | (with_reducible first | exact HB.out | apply below_alloc | apply pw_below_drewN | apply below_drew1) | exact HB.out)⟩⟩
                  · rw [if_neg c14] at H
                    have c14b0 : decide (x9_3 ≤ 60) = false := decide_eq_false c14
                    clear c14
                    obtain rfl := Option.some.inj H
                    go_wp2
                    go_ret
                    exact ⟨by first | rfl | (simp [errW_none, errW_some] <;> rfl) | (simp [*, errW_none, errW_some] <;> rfl) | (simp [errW_none, errW_some]; exact ⟨rfl, rfl⟩), by repeat (first | (with_reducible first | exact HB.out | apply below_alloc | apply pw_below_drewN | apply below_drew1) | exact HB.out)⟩

/-- THE ONE PURE STATEMENT of laws_FnSumDouble: yours. -/
noncomputable def laws_FnSumDouble.Pure : Prop := ∀ (l0 : List Int), l0.length ≤ maxLen → l0.length * 1 ≤ 140737488351232 → (∀ x ∈ l0, (Lit.int .u8 x).wf = true) → ∃ k, laws_FnSumDouble.f k l0 = some true
theorem laws_FnSumDouble.walk (P : laws_FnSumDouble.Pure) (a0 : Option Addr) (len0 cap0 : Nat) (z0 : List Int) (w : World) (w0 : (a0 = none ∧ len0 = 0 ∧ cap0 = 0 ∧ z0 = []) ∨ ∃ x, a0 = some x ∧ len0 ≤ cap0 ∧ cap0 ≤ maxLen ∧ z0.length = cap0 ∧ (∀ i, i < z0.length → w.cell? (x.add i) = some (.int .u8 (z0.getD i 0))) ∧ ∀ n ∈ z0, (Lit.int .u8 n).wf = true) (y0 : len0 * 1 ≤ 140737488351232) :
    Calls Try.prog 3 #[.slice a0 len0 cap0] w fun e w' => e = .returned (.bool true) ∧ Below w.heap.size w w' := by
  obtain ⟨l0, rfl, hr0, hm0, hw0, hc0⟩ := ReadsInt.ofRowC w0
  obtain ⟨k, h⟩ := P l0 hm0 y0 hw0
  refine (laws_FnSumDouble.calls k _ _ l0 true w (Kd.C_of_reads (d := (0 : Int)) (h1 := fun _ => rfl) hr0) hc0 h).mono ?_
  rintro e w' ⟨rfl, hd⟩
  exact ⟨rfl, hd⟩

end Go.Proofs.Ytaebonckcbhofaa.P

-- spec.SumDouble.
namespace Go.Proofs.Ytaebonckcbhofaa.P
open Go.RowKit Go.Proofs.YtaebonckcbhofaaW.PrintWords Go.Proofs.YtaebonckcbhofaaW.PrintLast Go.Proofs.YtaebonckcbhofaaW.PrintMore
set_option linter.unusedVariables false
set_option linter.unusedSimpArgs false

theorem ssumDouble_f (s : ByteArray) (hs : s.size ≤ 70368744177664) : Ev (fun k => spec_SumDouble.f k s) (dbr (chrs s)) := by
  obtain ⟨x, y, hev, hxy⟩ := l4small_f s hs
  refine Ev.congr (fun k => rfl) (Ev.bind hev ?_)
  unfold dbr
  cases hb : smallB (chrs s) with
  | false => simp only [Bool.false_eq_true, if_false]; exact Ev.now _
  | true =>
    obtain ⟨a, c, hp, hset, hm1, hm2, hpos, hper⟩ := smallB_ok hb
    obtain ⟨rfl, rfl⟩ := hxy (by rw [hp]; rfl)
    have hh1 : hasB (cn (setf (chrs s))).1 (cn (setf (chrs s))).2 = setf (chrs s) := by rw [hset]; exact cn_has (parse_per hp).1 (parse_per hp).2
    generalize (cn (setf (chrs s))).1 = x at *
    generalize (cn (setf (chrs s))).2 = y at *
    have hl : Nat.lcm y.length y.length = y.length := Nat.lcm_self _
    have hper3 : Per (dblq (hasB x y)) (2 * max x.length x.length + 3 * Nat.lcm y.length y.length + 2) (Nat.lcm y.length y.length) := by rw [hl]; exact (dblq_per (hasB_per x y)).mono (by omega)
    have := l4sum_f x y x y (List.length_pos_iff.1 hpos) (List.length_pos_iff.1 hpos) hm1 hm2 hm1 hm2 true _ (fun n => sumB_dblq _ n) hper3
    rw [hh1] at this
    simp only [if_true]
    exact Ev.bind this (Ev.now _)
end Go.Proofs.Ytaebonckcbhofaa.P

-- For every code the law FnSumDouble holds.
namespace Go.Proofs.Ytaebonckcbhofaa.P
open Go.RowKit Go.Proofs.YtaebonckcbhofaaW.PrintWords Go.Proofs.YtaebonckcbhofaaW.PrintLast Go.Proofs.YtaebonckcbhofaaW.PrintMore
set_option linter.unusedVariables false
set_option linter.unusedSimpArgs false

theorem drawSumDouble_f (l : List Int) (h : ∀ x ∈ l, (Lit.int .u8 x).wf = true) : ∃ (s : ByteArray), Few s ∧ Ev (fun k => spec_DrawSumDouble.f k l) s := by
  obtain ⟨s, q, hf, hq, K0, h0⟩ := set91_f (code_of h) 0 (by omega)
  dsimp only at h0
  have g0 : ∀ k, K0 ≤ k → spec_l91Set.f k (l.take 2000) 0 = some (s, (q : Int)) := h0
  refine ⟨s, hf, K0, fun k hk => ?_⟩
  try dsimp only
  unfold spec_DrawSumDouble.f
  rw [open_f, Option.bind_some, g0 k (by omega), Option.bind_some]
/-- The sums of two different ones whose lesser is less than i. -/
noncomputable def dbU (f : Nat → Bool) (n i : Nat) : Bool := dec (∃ j, j < i ∧ 2 * j < n ∧ f j = true ∧ f (n - j) = true)
theorem dbU_zero (f : Nat → Bool) (n : Nat) : dbU f n 0 = false := dec_false fun ⟨j, h, _⟩ => by omega
theorem dbU_end {f : Nat → Bool} {n i : Nat} (h : n ≤ 2 * i) : dbU f n i = dblq f n := by
  rw [dblq_iff']
  exact dec_congr ⟨fun ⟨j, _, b⟩ => ⟨j, b⟩, fun ⟨j, b⟩ => ⟨j, by omega, b⟩⟩
theorem dbU_old {f : Nat → Bool} {n i : Nat} (h : dbU f n i = true) : dbU f n (i + 1) = true := by
  obtain ⟨j, a, b⟩ := dec_iff.1 h
  exact dec_true ⟨j, by omega, b⟩
theorem dbU_new {f : Nat → Bool} {n i : Nat} (hi : 2 * i < n) (h : dbU f n i = false) : dbU f n (i + 1) = (f i && f (n - i)) := by
  rw [Bool.eq_iff_iff, Bool.and_eq_true]
  constructor
  · intro h2
    obtain ⟨j, a, b, c, d⟩ := dec_iff.1 h2
    rcases Nat.lt_or_ge j i with x | x
    · have : dbU f n i = true := dec_true ⟨j, x, b, c, d⟩
      rw [h] at this; cases this
    · rw [show j = i by omega] at c d; exact ⟨c, d⟩
  · rintro ⟨a, b⟩; exact dec_true ⟨i, Nat.lt_succ_self _, hi, a, b⟩
theorem lawSumDouble_l1 (s x0 : ByteArray) (hs : s.size ≤ 70368744177664) (hx : x0.size ≤ 122) (n : Nat) (hn : n ≤ 60) (hq : setf (chrs x0) = dblq (setf (chrs s))) (h3 : Ev (fun k => laws_FnSumDouble.l0 k s x0 ((n + 1 : Nat) : Int)) true) : ∀ (d i : Nat), i ≤ n → n - i = d →
    Ev (fun k => laws_FnSumDouble.l1 k s x0 n (dbU (setf (chrs s)) n i) i) true := by
  have fin : ∀ i : Nat, i ≤ n → n ≤ 2 * i → Ev (fun k => laws_FnSumDouble.l1 k s x0 n (dbU (setf (chrs s)) n i) i) true := by
    intro i hi hge
    obtain ⟨K3, h3⟩ := h3
    dsimp only at h3
    obtain ⟨K1, h1⟩ := isetHas_f x0 (by omega) n (by omega)
    dsimp only at h1
    rw [hq] at h1
    rw [dbU_end hge]
    refine ⟨K1 + K3 + 1, fun k hk => ?_⟩
    obtain ⟨k, rfl, hk2⟩ := down1 hk
    have hw : wrap64 (2 * (i : Int)) = ((2 * i : Nat) : Int) := by rw [w64 (by omega) (by omega)]; omega
    simp only [laws_FnSumDouble.l1]
    rw [hw, if_neg (by clear hw; omega), h1 k (by clear hw; omega), Option.bind_some, if_neg (bne_no _), wsucc (by clear hw; omega)]
    exact h3 k (by clear hw; omega)
  intro d
  induction d with
  | zero =>
    intro i hi hd
    exact fin i hi (by omega)
  | succ d ih =>
    intro i hi hd
    by_cases hlt : 2 * i < n
    · obtain ⟨K2, h2⟩ := ih (i + 1) (by omega) (by omega)
      dsimp only at h2
      obtain ⟨K4, h4⟩ := isetHas_f s hs i (by omega)
      dsimp only at h4
      obtain ⟨K5, h5⟩ := isetHas_f s hs (n - i) (by omega)
      dsimp only at h5
      have c1 : ((2 * i : Nat) : Int) < (n : Int) := by omega
      have c2 : i ≤ n := hi
      have c3 : i ≤ 4611686018427387904 := by omega
      have c4 : n ≤ 4611686018427387904 := by omega
      cases hu : dbU (setf (chrs s)) n i with
      | true =>
        rw [dbU_old hu] at h2
        refine ⟨K2 + 1, fun k hk => ?_⟩
        obtain ⟨k, rfl, hk2⟩ := down1 hk
        have hw : wrap64 (2 * (i : Int)) = ((2 * i : Nat) : Int) := by rw [w64 (by omega) (by omega)]; omega
        simp only [laws_FnSumDouble.l1]
        rw [hw, if_pos c1, if_pos (by trivial), wsucc c3]
        exact h2 k hk2
      | false =>
        rw [dbU_new hlt hu] at h2
        refine ⟨K2 + K4 + K5 + 1, fun k hk => ?_⟩
        obtain ⟨k, rfl, hk2⟩ := down1 hk
        have k2 : K2 ≤ k := by omega
        have k4 : K4 ≤ k := by omega
        have k5 : K5 ≤ k := by omega
        have hw : wrap64 (2 * (i : Int)) = ((2 * i : Nat) : Int) := by rw [w64 (by omega) (by omega)]; omega
        simp only [laws_FnSumDouble.l1]
        rw [hw, if_pos c1, if_neg (by decide), h4 k k4, Option.bind_some]
        cases hv : setf (chrs s) i with
        | true =>
          rw [hv, Bool.true_and] at h2
          rw [if_pos (by trivial), wsub c2 c4, h5 k k5, Option.bind_some, wsucc c3]
          exact h2 k k2
        | false =>
          rw [hv, Bool.false_and] at h2
          rw [if_neg (by decide), wsucc c3]
          exact h2 k k2
    · exact fin i hi (by omega)
theorem lawSumDouble_l0 (s x0 : ByteArray) (hs : s.size ≤ 70368744177664) (hx : x0.size ≤ 122) (hq : setf (chrs x0) = dblq (setf (chrs s))) : ∀ (d n : Nat), n ≤ 61 → 61 - n = d →
    Ev (fun k => laws_FnSumDouble.l0 k s x0 n) true := by
  intro d
  induction d with
  | zero =>
    intro n hn hd
    refine ⟨1, fun k hk => ?_⟩
    obtain ⟨k, rfl, hk2⟩ := down1 hk
    simp only [laws_FnSumDouble.l0]
    rw [if_neg (by omega)]
  | succ d ih =>
    intro n hn hd
    have hx1 := lawSumDouble_l1 s x0 hs hx n (by omega) hq (ih (n + 1) (by omega) (by omega)) _ 0 (Nat.zero_le _) rfl
    rw [dbU_zero] at hx1
    obtain ⟨K2, h2⟩ := hx1
    dsimp only at h2
    refine ⟨K2 + 1, fun k hk => ?_⟩
    obtain ⟨k, rfl, hk2⟩ := down1 hk
    simp only [laws_FnSumDouble.l0]
    rw [if_pos (by omega)]
    exact h2 k hk2
theorem lawSumDouble_ev (l : List Int) (h : ∀ x ∈ l, (Lit.int .u8 x).wf = true) : Ev (fun k => laws_FnSumDouble.f k l) true := by
  by_cases hl : (l.length : Int) > 1048576
  · exact ⟨0, fun k _ => by dsimp only; unfold laws_FnSumDouble.f; rw [if_pos hl]⟩
  · obtain ⟨s, hf, K1, h1⟩ := drawSumDouble_f l h
    dsimp only at h1
    have hz := hf.size
    have hs : s.size ≤ 70368744177664 := by omega
    obtain ⟨K2, h2⟩ := ssumDouble_f s hs
    dsimp only at h2
    have h3 := sumDouble_f s hs
    have main : Ev (fun k => laws_FnSumDouble.j0 k s (dbr (chrs s)).1 (dbr (chrs s)).2 true) true := by
      cases h4 : (dbr (chrs s)).2 with
      | false =>
        refine Ev.step (f := fun k => laws_FnSumDouble.j1 k s (dbr (chrs s)).1 true true) (fun k => ?_) (Ev.step (f := fun k => some true) (fun k => ?_) (Ev.now _))
        · simp only [laws_FnSumDouble.j0]; rfl
        · simp only [laws_FnSumDouble.j1]; rfl
      | true =>
        obtain ⟨m, p, hp0, hper, he, hA⟩ := dbr_ok h4
        rw [he]
        refine Ev.step (f := fun k => laws_FnSumDouble.j1 k s (txt (cn (dblq (setf (chrs s))))).1 true false) (fun k => ?_) (Ev.step (fun k => ?_) (lawSumDouble_l0 s _ hs (txt_size _) (txt_setf hp0 hper hA) _ 0 (by omega) rfl))
        · simp only [laws_FnSumDouble.j0]; rfl
        · simp only [laws_FnSumDouble.j1]; rfl
    obtain ⟨K4, h4⟩ := main
    dsimp only at h4
    refine ⟨K1 + K2 + K4, fun k hk => ?_⟩
    try dsimp only
    unfold laws_FnSumDouble.f
    rw [if_neg hl, h1 k (by omega), Option.bind_some]
    try dsimp only
    rw [h3, Option.bind_some, h2 k (by omega), Option.bind_some, if_pos (by trivial), BEq.rfl]
    exact h4 k (by omega)
theorem lawSumDouble_pure : laws_FnSumDouble.Pure := fun l _ _ h => (lawSumDouble_ev l h).rounds
end Go.Proofs.Ytaebonckcbhofaa.P

-- For every code the law FnSumDouble holds.
namespace Go.Proofs.Ytaebonckcbhofaa.Pure
theorem FnSumDouble : Go.Proofs.Ytaebonckcbhofaa.P.laws_FnSumDouble.Pure := Go.Proofs.Ytaebonckcbhofaa.P.lawSumDouble_pure
end Go.Proofs.Ytaebonckcbhofaa.Pure
