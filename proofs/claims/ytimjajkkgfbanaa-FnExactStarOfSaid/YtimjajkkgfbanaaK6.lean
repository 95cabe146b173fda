/- What these laws reach, joined by a program of this session: contracts (written by that program over the kit's print, or by hand) and plain lemmas. -/
import Derived.Test.YtimjajkkgfbanaaK1
import Derived.Test.YtimjajkkgfbanaaK3
import Derived.Test.YtimjajkkgfbanaaK4
import Derived.Test.YtimjajkkgfbanaaK5
-- impl.star marks the numbers of a star; impl.set.least.
namespace Go.Proofs.Ytimjajkkgfbanaa.P
open Go.RowKit Go.Proofs.YtimjajkkgfbanaaW.PrintWords Go.Proofs.YtimjajkkgfbanaaW.PrintLast Go.Proofs.YtimjajkkgfbanaaW.PrintMore
set_option linter.unusedVariables false
set_option linter.unusedSimpArgs false

/-- Whether a number is 0, or a part less than k and one of the star. -/
noncomputable def stU (f : Nat → Bool) (n k : Nat) : Bool := dec (n = 0 ∨ ∃ j, 1 ≤ j ∧ j < k ∧ j ≤ n ∧ f j = true ∧ stq f (n - j) = true)
theorem stU_true {f : Nat → Bool} {n k : Nat} (h : stU f n k = true) : stq f n = true := by
  rcases dec_iff.1 h with rfl | ⟨j, h1, h2, h3, h4, h5⟩
  · exact stq_iff.2 (St.zero f)
  · have := (St.of (by omega) h4).add (stq_iff.1 h5)
    rw [show j + (n - j) = n by omega] at this
    exact stq_iff.2 this
theorem stU_end {f : Nat → Bool} {n k : Nat} (hk : n < k) : stU f n k = stq f n := by
  rw [Bool.eq_iff_iff]
  constructor
  · exact stU_true
  · intro h
    rcases Nat.eq_zero_or_pos n with rfl | hn
    · exact dec_true (.inl rfl)
    · obtain ⟨j, h1, h2, h3, h4⟩ := (stq_iff.1 h).step hn
      exact dec_true (.inr ⟨j, h1, by omega, h2, h3, stq_iff.2 h4⟩)
theorem stU_step {f : Nat → Bool} {n k : Nat} (h1 : 1 ≤ k) (hk : k ≤ n) (h : stU f n k = false) : stU f n (k + 1) = (f k && stq f (n - k)) := by
  rw [Bool.eq_iff_iff, Bool.and_eq_true]
  constructor
  · intro h2
    rcases dec_iff.1 h2 with h3 | ⟨j, a, b, c, d, e⟩
    · omega
    · rcases Nat.lt_or_ge j k with x | x
      · have : stU f n k = true := dec_true (.inr ⟨j, a, x, c, d, e⟩)
        rw [h] at this; cases this
      · rw [show j = k by omega] at d e; exact ⟨d, e⟩
  · rintro ⟨a, b⟩; exact dec_true (.inr ⟨k, h1, by omega, hk, a, b⟩)
theorem stU_one {f : Nat → Bool} {n : Nat} : stU f n 1 = ((n : Int) == 0) := by
  rw [Bool.eq_iff_iff, beq_iff_eq]
  constructor
  · intro h
    rcases dec_iff.1 h with rfl | ⟨j, a, b, _⟩
    · rfl
    · omega
  · intro h; exact dec_true (.inl (by omega))
theorem star_l1 (a b : List Bool) (hb : b ≠ []) (h1 : a.length ≤ 60) (h2 : b.length ≤ 60) (n m N : Nat) (hn : n ≤ 100000) (hm : m ≤ 100000) (v : List Bool)
    (hv : Ev (fun k => impl_star.l0 k (mid (stq (hasB a b)) n (stq (hasB a b) n) m) N ((n + 1 : Nat) : Int) a b) v) : ∀ (e i : Nat), 1 ≤ i → i ≤ n + 1 → n + 1 - i = e →
    Ev (fun k => impl_star.l1 k (mid (stq (hasB a b)) n (stU (hasB a b) n i) m) n i N n a b) v := by
  have HV := Aside0.mk hv
  clear hv
  have cl : (n : Int) < ((mid (stq (hasB a b)) n true m).length : Int) := by rw [mid_length]; omega
  have c5 : n ≤ 4611686018427387904 := by omega
  have hlen : ∀ u u', ((mid (stq (hasB a b)) n u m).length : Int) = ((mid (stq (hasB a b)) n u' m).length : Int) := fun u u' => by rw [mid_length, mid_length]
  have c6 : (0 : Int) ≤ (n : Int) := by omega
  intro e
  induction e with
  | zero =>
    intro i hi1 hi he
    rw [stU_end (by omega)]
    refine Ev.step (fun k => ?_) HV.out
    simp only [impl_star.l1]
    rw [if_neg (by omega), wsucc c5]
  | succ e ih =>
    intro i hi1 hi he
    have d1 : (i : Int) ≤ (n : Int) := by omega
    have d2 : i ≤ n := by omega
    have d3 : i ≤ 4611686018427387904 := by omega
    have hih := ih (i + 1) (by omega) (by omega) (by omega)
    have e1 := ihas_f a b hb (by omega) i (by omega)
    have d4 : ((n - i : Nat) : Int) < ((mid (stq (hasB a b)) n false m).length : Int) := by rw [mid_length]; omega
    have d5 : (0 : Int) ≤ ((n - i : Nat) : Int) := by omega
    have d6 : n - i < n := by omega
    cases hu : stU (hasB a b) n i with
    | true =>
      have hq := stU_true hu
      have hv := HV.out
      rw [hq] at hv
      refine Ev.step (fun k => ?_) hv
      simp only [impl_star.l1]
      rw [if_pos d1, if_pos c6, if_pos cl, rdOf_nat, mid_self, if_pos (by trivial), wsucc c5]
    | false =>
      rw [stU_step hi1 d2 hu] at hih
      refine Ev.step (fun k => ?_) hih
      simp only [impl_star.l1]
      rw [if_pos d1, if_pos c6, hlen false true, if_pos cl, rdOf_nat, mid_self, if_neg (by decide), e1, Option.bind_some]
      cases hf : hasB a b i with
      | true =>
        rw [if_pos (by trivial), wsub d2 c5, if_pos d5, ← hlen false true, if_pos d4, rdOf_nat, mid_lt _ d6, Int.toNat_natCast, mid_set, wsucc d3, Bool.true_and]
      | false =>
        rw [if_neg (by decide), Int.toNat_natCast, mid_set, wsucc d3, Bool.false_and]
theorem star_l0 (a b : List Bool) (hb : b ≠ []) (h1 : a.length ≤ 60) (h2 : b.length ≤ 60) : ∀ (m n : Nat), n + m + 1 ≤ 100000 →
    Ev (fun k => impl_star.l0 k (mid (stq (hasB a b)) n false m) ((n + m + 1 : Nat) : Int) n a b) (mkT (stq (hasB a b)) (n + m + 1)) := by
  intro m
  induction m with
  | zero =>
    intro n hn
    have hfin : Ev (fun k => impl_star.l0 k (mid (stq (hasB a b)) n (stq (hasB a b) n) 0) ((n + 0 + 1 : Nat) : Int) ((n + 1 : Nat) : Int) a b) (mkT (stq (hasB a b)) (n + 0 + 1)) := by
      rw [mid_end]
      refine Ev.step (f := fun k => some (mkT (stq (hasB a b)) (n + 1))) (fun k => ?_) (Ev.now _)
      simp only [impl_star.l0]; rw [if_neg (Int.lt_irrefl _)]
    have hx := star_l1 a b hb h1 h2 n 0 (n + 0 + 1) (by omega) (by omega) _ hfin _ 1 (Nat.le_refl _) (by omega) rfl
    rw [stU_one] at hx
    have hl : ((mid (stq (hasB a b)) n false 0).length : Int) = ((n + 1 : Nat) : Int) := by rw [mid_length]
    refine Ev.step (fun k => ?_) hx
    simp only [impl_star.l0]
    rw [if_pos (by omega), if_pos (by omega), hl, if_pos (by omega), Int.toNat_natCast, mid_set]; rfl
  | succ m ih =>
    intro n hn
    have hih := ih (n + 1) (by omega)
    rw [← mid_next, show n + 1 + m + 1 = n + (m + 1) + 1 by omega] at hih
    have hx := star_l1 a b hb h1 h2 n (m + 1) (n + (m + 1) + 1) (by omega) (by omega) _ hih _ 1 (Nat.le_refl _) (by omega) rfl
    rw [stU_one] at hx
    have hl : ((mid (stq (hasB a b)) n false (m + 1)).length : Int) = ((n + 1 + (m + 1) : Nat) : Int) := by rw [mid_length]
    refine Ev.step (fun k => ?_) hx
    simp only [impl_star.l0]
    rw [if_pos (by omega), if_pos (by omega), hl, if_pos (by omega), Int.toNat_natCast, mid_set]; rfl
theorem star_f (a b : List Bool) (hb : b ≠ []) (h1 : a.length ≤ 60) (h2 : b.length ≤ 60) (N : Nat) (h0 : 0 < N) (hN : N ≤ 100000) : Ev (fun k => impl_star.f k a b N) (mkT (stq (hasB a b)) N) := by
  have h := star_l0 a b hb h1 h2 (N - 1) 0 (by omega)
  rw [show 0 + (N - 1) + 1 = N by omega, ← mid_start, show N - 1 + 1 = N by omega] at h
  refine Ev.congr (fun k => ?_) h
  unfold impl_star.f
  rw [if_pos (by omega), Int.toNat_natCast, if_pos (by omega), Option.bind_some, List.length_replicate]; rfl
end Go.Proofs.Ytimjajkkgfbanaa.P

-- impl.starred over a question for 0 that is answered.
namespace Go.Proofs.Ytimjajkkgfbanaa.P
open Go.RowKit Go.Proofs.YtimjajkkgfbanaaW.PrintWords Go.Proofs.YtimjajkkgfbanaaW.PrintLast Go.Proofs.YtimjajkkgfbanaaW.PrintMore
attribute [local go_sem] max2_int min2_int max_two min_two
set_option linter.unusedVariables false
set_option linter.unusedSimpArgs false

set_option maxHeartbeats 8000000 in
set_option maxRecDepth 100000 in
theorem starred_q_calls (gz : Nat) (lbz : Array Value) (egz : ∀ args w, (callFunc gz args).run Try.prog w = .ok (.enter gz args) w) (z : Bool) (b0 b1 b2 : Nat) (v0 v1 : Value) (q : Nat → Bool) (N : Nat) (A2 : Option Addr) (c2 n : Nat) (hn : n < N) (hN : N ≤ 100000) (W : World)
    (h0 : W.cell? ⟨b0, 0, none⟩ = some (.func (.func gz) #[] lbz)) (hx0 : W.cell? ⟨b1, 0, none⟩ = some v0) (hx1 : W.cell? ⟨b1, 1, none⟩ = some v1) (hl : W.cell? ⟨b2, 0, none⟩ = some (.slice A2 N c2))
    (hC2 : Kd.C Kd.bool W A2 N (mkT q N)) (hc2 : N ≤ c2)
    (hz : Calls Try.prog gz (#[.agg #[v0, v1]] ++ lbz) W fun e w' => e = .returned (.bool z) ∧ Below W.heap.size W w') :
    Calls Try.prog 53 #[.int .i64 n, .pointer (some ⟨b0, 0, none⟩), .pointer (some ⟨b1, 0, none⟩), .pointer (some ⟨b2, 0, none⟩)] W fun e w' => e = .returned (.bool (if n = 0 then z else q n)) ∧ Below W.heap.size W w' := by
  have hu := Try.underlying42
  by_cases hn0 : n = 0
  · subst hn0
    rw [if_pos rfl]
    have HZ := Aside0.mk hz
    clear hz hC2
    go_enter Try.func53, Try.ntmps53
    go_wp2_with (go_at_fn gz; refine HZ.out.mono ?_; rintro e w' ⟨rfl, hb⟩)
    go_ret
    exact ⟨rfl, hb⟩
  · rw [if_neg hn0]
    have p1 : (0 : Int) ≤ (n : Int) := by omega
    have q1 : (n : Int) < (N : Int) := by omega
    have hz2 : ¬ ((n : Int) = 0) := by omega
    obtain ⟨ad1, e1, hx1⟩ := Kd.at_bool hC2 (n : Int) p1 (by omega)
    rw [Int.toNat_natCast, rdOf_nat, mkT_get q hn] at hx1
    generalize q n = res at *
    clear hz hC2
    cases e1
    go_enter Try.func53, Try.ntmps53
    go_wp2
    go_ret
    exact ⟨rfl, by repeat (first | exact Below.refl _ _ | apply below_drew1)⟩

set_option maxHeartbeats 8000000 in
set_option maxRecDepth 100000 in
theorem starred_calls (s : ByteArray) (hs : s.size ≤ 70368744177664) (gz : Nat) (lbz : Array Value) (egz : ∀ args w, (callFunc gz args).run Try.prog w = .ok (.enter gz args) w) (z : Bool) (w : World)
    (hz : smallB (chrs s) = true → ∀ (W : World) (A0 : Option Addr) (c0 : Nat) (A1 : Option Addr) (c1 : Nat), Below w.heap.size w W → Kd.C Kd.bool W A0 (cn (setf (chrs s))).1.length (cn (setf (chrs s))).1 → (cn (setf (chrs s))).1.length ≤ c0 → Kd.C Kd.bool W A1 (cn (setf (chrs s))).2.length (cn (setf (chrs s))).2 → (cn (setf (chrs s))).2.length ≤ c1 →
      Calls Try.prog gz (#[.agg #[.slice A0 (cn (setf (chrs s))).1.length c0, .slice A1 (cn (setf (chrs s))).2.length c1]] ++ lbz) W fun e w' => e = .returned (.bool z) ∧ Below W.heap.size W w') :
    Calls Try.prog 39 #[.string s, .func (.func gz) #[] lbz] w fun e w' => e = .returned (.tuple #[.string (str (chrs s) z).1, .bool (str (chrs s) z).2]) ∧ Below w.heap.size w w' := by
  obtain ⟨x, y, hev, hxy⟩ := small_f s hs
  obtain ⟨k, hk⟩ := hev.rounds
  have hu := Try.underlying42
  clear hev
  cases hb : smallB (chrs s) with
  | true =>
    rw [hb] at hk
    have HK := fun w => Aside0.mk (impl_small.calls k s x y true w hk)
    obtain ⟨a, c, hp, hset, hm1, hm2, hpos, hper⟩ := smallB_ok hb
    obtain ⟨rfl, rfl⟩ := hxy (by rw [hp]; rfl)
    have e : str (chrs s) z = txt (cn (stz z (setf (chrs s)))) := by unfold str; rw [hb]; rfl
    rw [e]
    have hh1 : hasB (cn (setf (chrs s))).1 (cn (setf (chrs s))).2 = setf (chrs s) := by rw [hset]; exact cn_has (parse_per hp).1 (parse_per hp).2
    have hz := hz hb
    generalize (cn (setf (chrs s))).1 = x at *
    generalize (cn (setf (chrs s))).2 = y at *
    obtain ⟨d, hd, hdev⟩ := least_f x y (List.length_pos_iff.1 hpos) (by omega) (by omega)
    obtain ⟨k3, hk3⟩ := hdev.rounds
    have hdle := isLeast_le (m := x.length) hpos (hasB_per x y) hd
    obtain ⟨k4, hk4⟩ := (star_f x y (List.length_pos_iff.1 hpos) (by omega) (by omega) (1000 + max d 1) (by omega) (by omega)).rounds
    have hper3 : Per (stz z (hasB x y)) 1000 (max d 1) := (stz_per hm1 hpos hm2 (hasB_per x y) hd z).mono (by omega)
    rw [← hh1]
    have eg : ∀ args w, (callFunc 53 args).run Try.prog w = .ok (.enter 53 args) w := enters_of Try.func53 (by kernel_rfl) rfl
    have HM := fun (lb : Array Value) (w : World) => Aside0.mk (made_calls (stz z (hasB x y)) 1000 (max d 1) (by omega) hper3 (by omega) 53 lb w eg)
    have HZ := Aside0.mk hz
    have hsum : IntKind.i64.wrap (1000 + ((max d 1 : Nat) : Int)) = ((1000 + max d 1 : Nat) : Int) := by rw [IntKind.wrap_i64]; omega
    have hD : max d 1 ≤ 20 := by omega
    have HD := Aside0.mk hD
    have hmx : (if (d : Int) < 1 then (1 : Int) else (d : Int)) = ((max d 1 : Nat) : Int) := by split <;> omega
    have hml : (mkT (stq (hasB x y)) (1000 + max d 1)).length = 1000 + max d 1 := mkT_length _ _
    clear hb hp hxy hk hper hper3 eg e hh1 hset hz hdev hD hd hdle
    generalize max d 1 = D at *
    generalize (d : Int) = dI at *
    go_enter Try.func39, Try.ntmps39
    go_wp2_with (first
      | (go_at_call 27; refine (HK _).out.mono ?_; rintro e w1 ⟨v0_, v1_, rfl, hR0, hR1, hb1⟩; obtain ⟨A0, n0, rfl, hn0, hC0⟩ := Kd.R_reads hR0; obtain ⟨A1, n1, rfl, hn1, hC1⟩ := Kd.R_reads hR1; have C0 := Aside0.mk hC0; have C1 := Aside0.mk hC1; have N0 := Aside0.mk hn0; have N1 := Aside0.mk hn1; clear hR0 hR1 hC0 hC1 hn0 hn1; have HB := Aside0.mk (below_step (below_alloc (Below.refl w.heap.size w) _) hb1); have F0 := Aside0.mk ((hb1.cell (p := ⟨w.heap.size, 0, none⟩) (by simp)).trans (by simp : (w.alloc (.cells #[.func (.func gz) #[] lbz] _)).cell? ⟨w.heap.size, 0, none⟩ = some (.func (.func gz) #[] lbz))); have L0 := Aside0.mk (Nat.lt_of_lt_of_le (by simp) hb1.size : w.heap.size < w1.heap.size); clear hb1)
      | (go_at_call 52; refine (impl_set_least.calls k3 A0 n0 x A1 n1 y _ _ (Kd.C_alloc C0.out _) N0.out (Kd.C_alloc C1.out _) N1.out hk3).mono ?_; rintro e w2 ⟨rfl, hb2⟩; have HB2 := Aside0.mk (below_step (below_alloc (Below.refl w1.heap.size w1) _) hb2); have c1 := (hb2.cell (p := ⟨w1.heap.size, 0, none⟩) (by simp)).trans (by simp : (w1.alloc (.cells #[.slice A0 x.length n0, .slice A1 y.length n1] _)).cell? ⟨w1.heap.size, 0, none⟩ = some (.slice A0 x.length n0)); have c2 := (hb2.cell (p := ⟨w1.heap.size, 1, none⟩) (by simp)).trans (by simp : (w1.alloc (.cells #[.slice A0 x.length n0, .slice A1 y.length n1] _)).cell? ⟨w1.heap.size, 1, none⟩ = some (.slice A1 y.length n1)); have l2 : w1.heap.size < w2.heap.size := Nat.lt_of_lt_of_le (by simp) hb2.size; clear hb2)
      | (go_at_call 28; refine (impl_star.calls k4 A0 n0 x A1 n1 y _ _ w2 (Kd.C_below C0.out HB2.out) N0.out (Kd.C_below C1.out HB2.out) N1.out hk4).mono ?_; rintro e w3 ⟨v2_, rfl, hR2, hb3⟩; obtain ⟨A2, n2, rfl, hn2, hC2⟩ := Kd.R_reads hR2; rw [hml] at hn2 hC2; have C2 := Aside0.mk hC2; have N2 := Aside0.mk hn2; have HB3 := Aside0.mk (below_step HB2.out hb3); have d1 := (hb3.cell (p := ⟨w1.heap.size, 0, none⟩) l2).trans c1; have d2 := (hb3.cell (p := ⟨w1.heap.size, 1, none⟩) l2).trans c2; have l3 : w1.heap.size < w3.heap.size := Nat.lt_of_lt_of_le l2 hb3.size; clear hR2 hC2 hn2 hb3)
      | (go_at_call 31; refine ((HM _ _).out ?hc).mono ?_; (case hc =>
          intro W i hW hi
          have hBW := below_step (below_alloc (Below.refl w3.heap.size w3) _) hW
          have hBW1 := below_step HB3.out hBW
          have hl0 := L0.out
          have hd20 := HD.out
          exact starred_q_calls gz lbz egz z w.heap.size w1.heap.size w3.heap.size _ _ (stq (hasB x y)) _ A2 n2 i hi (by omega) W
            ((hBW1.cell (p := ⟨w.heap.size, 0, none⟩) hl0).trans F0.out) ((hBW.cell (p := ⟨w1.heap.size, 0, none⟩) l3).trans d1) ((hBW.cell (p := ⟨w1.heap.size, 1, none⟩) l3).trans d2) ((hW.cell (p := ⟨w3.heap.size, 0, none⟩) (by simp)).trans (by simp)) (Kd.C_below C2.out hBW) N2.out
            (HZ.out W A0 n0 A1 n1 (below_step HB.out hBW1) (Kd.C_below C0.out hBW1) N0.out (Kd.C_below C1.out hBW1) N1.out)); rintro e w4 ⟨rfl, hb4⟩))
    go_ret2
    exact ⟨rfl, below_step (below_alloc (below_step HB.out HB3.out) _) hb4⟩
  | false =>
    rw [hb] at hk
    have HK := fun w => Aside0.mk (impl_small.calls k s x y false w hk)
    have e : str (chrs s) z = (⟨#[]⟩, false) := by unfold str; rw [hb]; rfl
    rw [e]
    clear hb hk hxy e hz
    go_enter Try.func39, Try.ntmps39
    go_wp2_with (go_at_call 27; refine (HK _).out.mono ?_; rintro e w1 ⟨v0_, v1_, rfl, hR0, hR1, hb1⟩; obtain ⟨A0, n0, rfl, hn0, hC0⟩ := Kd.R_reads hR0; obtain ⟨A1, n1, rfl, hn1, hC1⟩ := Kd.R_reads hR1; clear hR0 hR1 hC0 hC1 hn0 hn1; have HB := Aside0.mk (below_step (below_alloc (Below.refl w.heap.size w) _) hb1); clear hb1)
    go_ret2
    refine ⟨rfl, ?_⟩
    repeat (first | exact HB.out | apply below_alloc | (refine below_set ?_ HB.out.size))
end Go.Proofs.Ytimjajkkgfbanaa.P

namespace Go.Proofs.Ytimjajkkgfbanaa.P
open Go.RowKit Go.Proofs.YtimjajkkgfbanaaW.PrintWords Go.Proofs.YtimjajkkgfbanaaW.PrintLast Go.Proofs.YtimjajkkgfbanaaW.PrintMore
attribute [local go_sem] max2_int min2_int max_two min_two max_three min_three max_four min_four   -- for this text's walks alone
set_option linter.unusedVariables false
set_option linter.unusedSimpArgs false

/-! ### impl_gcd: function 51 -/
def impl_gcd.l0 : Nat → Int → Int → Option (Int)
  | 0, _, _ => none
  | k + 1, x0, x1 => if x1 = 0 then (some x0) else (impl_gcd.l0 k x1 (Int.tmod x0 x1))
def impl_gcd.f (k : Nat) (a0 : Int) (a1 : Int) : Option (Int) := impl_gcd.l0 k a0 a1
theorem impl_gcd.mono_l : ∀ k, (∀ y0 y1, LeO (impl_gcd.l0 k y0 y1) (impl_gcd.l0 (k + 1) y0 y1))
  | 0 => fun _ _ r h => by simp [impl_gcd.l0] at h
  | k + 1 => by
    have ih0 := impl_gcd.mono_l k
    · intro y0 y1
      unfold impl_gcd.l0
      repeat' first
      | (with_reducible exact ih0 _ _)
      | (with_reducible exact LeO.refl _)
      | (with_reducible exact LeO.none _)
      | (with_reducible refine LeO.ite ?_ ?_)
      | (with_reducible refine LeO.bind ?_ (fun _ => ?_))
      | exact ih0 _ _
      | exact LeO.none _
      | refine LeO.ite ?_ ?_
      | refine LeO.bind ?_ (fun _ => ?_)
theorem impl_gcd.mono : ∀ a0 a1 k, LeO (impl_gcd.f k a0 a1) (impl_gcd.f (k + 1) a0 a1) := by
  intro a0 a1 k
  have ih0 := impl_gcd.mono_l k
  unfold impl_gcd.f
  repeat' first
      | (with_reducible exact ih0 _ _)
      | (with_reducible exact LeO.refl _)
      | (with_reducible exact LeO.none _)
      | (with_reducible refine LeO.ite ?_ ?_)
      | (with_reducible refine LeO.bind ?_ (fun _ => ?_))
      | exact ih0 _ _
      | exact LeO.none _
      | refine LeO.ite ?_ ?_
      | refine LeO.bind ?_ (fun _ => ?_)
set_option maxHeartbeats 8000000 in
set_option maxRecDepth 100000 in
theorem impl_gcd.calls (k : Nat) (a0 : Int) (a1 : Int) (r : Int) (w : World) (h : impl_gcd.f k a0 a1 = some r) :
    Calls Try.prog 51 #[.int .i64 a0, .int .i64 a1] w fun e w' => e = .returned (.int .i64 r) ∧ Drawn0 w w' := by
  have H : (impl_gcd.l0 k a0 a1) = some r := h
  clear h
  have H' := Aside0.mk H
  clear H
  go_enter Try.func51, Try.ntmps51
  go_wp2
  repeat (go_quiet (fail); try go_wp2)
  go_loopg [0, 1] k (fun kq v0 v1 w' => ∃ (x0_1 : Int) (x1_1 : Int), v0 = .int .i64 x0_1 ∧ v1 = .int .i64 x1_1 ∧ Aside0 (impl_gcd.l0 kq x0_1 x1_1 = some r) ∧ Aside0 (kq ≤ k) ∧ Drawn0 w w')
  case atStart => exact ⟨(a0), (a1), (by first | rfl | (simp; done) | (simp [*]; done) | (simp [Int.tmod_eq_emod_of_nonneg]; done)), (by first | rfl | (simp; done) | (simp [*]; done) | (simp [Int.tmod_eq_emod_of_nonneg]; done)), H', ⟨Nat.le_refl _⟩, by repeat (first | exact Drawn0.refl _ | apply Drawn0.step)⟩
  case round =>
    clear H'
    try clear p2
    obtain ⟨x0_1, x1_1, rfl, rfl, HA, HK1, ⟨m1, rfl⟩⟩ := hrel
    cases gk with
    | zero => exact absurd HA.out (by simp [impl_gcd.l0])
    | succ k1 =>
      have H := HA.out
      clear HA
      simp only [impl_gcd.l0] at H
      by_cases c3 : x1_1 = 0
      · rw [if_pos c3] at H
        have c3b0 : (x1_1 == 0) = true := beq_iff_eq.mpr c3
        have c3b1 : (x1_1 != 0) = false := bne_eq_false_iff_eq.mpr c3
        clear c3
        obtain rfl := Option.some.inj H
        go_wp2
        repeat (go_quiet (fail); try go_wp2)
        go_ret
        exact ⟨by first | rfl | (simp; done) | (simp [*]; done), by repeat (first | exact Drawn0.refl _ | apply Drawn0.step)⟩
      · rw [if_neg c3] at H
        have c3b0 : (x1_1 == 0) = false := beq_eq_false_iff_ne.mpr c3
        have c3b1 : (x1_1 != 0) = true := bne_iff_ne.mpr c3
        have H' := Aside0.mk H
        clear H
        go_wp2
        repeat (go_quiet (fail); try go_wp2)
        go_roundg k1
        case measure => have := HK1.out; omega
        case rel => exact ⟨(x1_1), (Int.tmod x0_1 x1_1), (by first | rfl | (simp; done) | (simp [*]; done) | (simp [Int.tmod_eq_emod_of_nonneg]; done)), (by first | rfl | (simp; done) | (simp [*]; done) | (simp [Int.tmod_eq_emod_of_nonneg]; done)), H', ⟨by have := HK1.out; omega⟩, by repeat (first | exact Drawn0.refl _ | apply Drawn0.step)⟩

end Go.Proofs.Ytimjajkkgfbanaa.P

namespace Go.Proofs.Ytimjajkkgfbanaa.P
open Go.RowKit Go.Proofs.YtimjajkkgfbanaaW.PrintWords Go.Proofs.YtimjajkkgfbanaaW.PrintLast Go.Proofs.YtimjajkkgfbanaaW.PrintMore
attribute [local go_sem] max2_int min2_int max_two min_two max_three min_three max_four min_four   -- for this text's walks alone
set_option linter.unusedVariables false
set_option linter.unusedSimpArgs false

/-! ### impl_lcm: function 32 -/
def impl_lcm.f (k : Nat) (a0 : Int) (a1 : Int) : Option (Int) := (impl_gcd.f k a0 a1).bind fun t433 => (if t433 = 0 then (none) else (some (wrap64 ((wrap64 (Int.tdiv a0 t433)) * a1))))
theorem impl_lcm.mono : ∀ a0 a1 k, LeO (impl_lcm.f k a0 a1) (impl_lcm.f (k + 1) a0 a1) := by
  intro a0 a1 k
  unfold impl_lcm.f
  repeat' first
      | (with_reducible exact impl_gcd.mono _ _ _)
      | (with_reducible exact LeO.refl _)
      | (with_reducible exact LeO.none _)
      | (with_reducible refine LeO.ite ?_ ?_)
      | (with_reducible refine LeO.bind ?_ (fun _ => ?_))
      | exact impl_gcd.mono _ _ _
      | exact LeO.none _
      | refine LeO.ite ?_ ?_
      | refine LeO.bind ?_ (fun _ => ?_)
set_option maxHeartbeats 8000000 in
set_option maxRecDepth 100000 in
theorem impl_lcm.calls (k : Nat) (a0 : Int) (a1 : Int) (r : Int) (w : World) (h : impl_lcm.f k a0 a1 = some r) :
    Calls Try.prog 32 #[.int .i64 a0, .int .i64 a1] w fun e w' => e = .returned (.int .i64 r) ∧ Drawn0 w w' := by
  have H : ((impl_gcd.f k a0 a1).bind fun t433 => (if t433 = 0 then (none) else (some (wrap64 ((wrap64 (Int.tdiv a0 t433)) * a1))))) = some r := h
  clear h
  replace H := Option.bind_eq_some_iff.mp H
  obtain ⟨t433, A30, H⟩ := H
  replace H : (if t433 = 0 then (none) else (some (wrap64 ((wrap64 (Int.tdiv a0 t433)) * a1)))) = some r := H
  have A3 := Aside0.mk A30
  clear A30
  by_cases c4 : t433 = 0
  · rw [if_pos c4] at H
    exact absurd H (by simp)
  · rw [if_neg c4] at H
    have c4b0 : (t433 == 0) = false := beq_eq_false_iff_ne.mpr c4
    have c4b1 : (t433 != 0) = true := bne_iff_ne.mpr c4
    obtain rfl := Option.some.inj H
    go_enter Try.func32, Try.ntmps32
    go_wp2_with (first | ((with_reducible refine gate_callee (f := 51) rfl ?_); refine goesL_ (some 8) rfl rfl Try.func51 (by kernel_rfl) rfl #[.int .i64 a0, .int .i64 a1] rfl (by (try simp only [List.map_toArray, List.map_cons, List.map_nil]); first | done | rfl | (simp only [List.length_drop, List.length_take]; rfl)) ?_; (with_reducible refine (impl_gcd.calls k a0 a1 t433 _ A3.out).mono ?_); rintro e w' ⟨rfl, ⟨nd, rfl⟩⟩; refine ⟨_, rfl, ?_⟩))
    go_ret
    exact ⟨by first | rfl | (simp; done) | (simp [*]; done), by repeat (first | exact Drawn0.refl _ | apply Drawn0.step)⟩

end Go.Proofs.Ytimjajkkgfbanaa.P

namespace Go.Proofs.Ytimjajkkgfbanaa.P
open Go.RowKit Go.Proofs.YtimjajkkgfbanaaW.PrintWords Go.Proofs.YtimjajkkgfbanaaW.PrintLast Go.Proofs.YtimjajkkgfbanaaW.PrintMore
attribute [local go_sem] max2_int min2_int max_two min_two max_three min_three max_four min_four   -- for this text's walks alone
set_option linter.unusedVariables false
set_option linter.unusedSimpArgs false

/-! ### impl_sums: function 34 -/
def impl_sums.l0 : Nat → Int → Int → Int → List Bool → List Bool → List Bool → List Bool → Option (Bool)
  | 0, _, _, _, _, _, _, _ => none
  | k + 1, x2, x9, x10, x435000, x435001, x436000, x436001 => if x10 < x9 then ((impl_set_has.f x435000 x435001 x10).bind fun t436 => (if t436 = true then ((impl_set_has.f x436000 x436001 (wrap64 (x2 - x10))).bind fun t437 => (if t437 = true then (some true) else (impl_sums.l0 k x2 x9 (wrap64 (x10 + 1)) x435000 x435001 x436000 x436001))) else (impl_sums.l0 k x2 x9 (wrap64 (x10 + 1)) x435000 x435001 x436000 x436001))) else (some false)
def impl_sums.f (k : Nat) (l0_0 : List Bool) (l0_1 : List Bool) (l1_0 : List Bool) (l1_1 : List Bool) (a2 : Int) : Option (Bool) := impl_sums.l0 k a2 (wrap64 (a2 + 1)) 0 l0_0 l0_1 l1_0 l1_1
theorem impl_sums.mono_l : ∀ k, (∀ y0 y1 y2 y3 y4 y5 y6, LeO (impl_sums.l0 k y0 y1 y2 y3 y4 y5 y6) (impl_sums.l0 (k + 1) y0 y1 y2 y3 y4 y5 y6))
  | 0 => fun _ _ _ _ _ _ _ r h => by simp [impl_sums.l0] at h
  | k + 1 => by
    have ih0 := impl_sums.mono_l k
    · intro y0 y1 y2 y3 y4 y5 y6
      unfold impl_sums.l0
      repeat' first
      | (with_reducible exact ih0 _ _ _ _ _ _ _)
      | (with_reducible exact LeO.refl _)
      | (with_reducible exact LeO.none _)
      | (with_reducible refine LeO.ite ?_ ?_)
      | (with_reducible refine LeO.bind ?_ (fun _ => ?_))
      | exact ih0 _ _ _ _ _ _ _
      | exact LeO.none _
      | refine LeO.ite ?_ ?_
      | refine LeO.bind ?_ (fun _ => ?_)
theorem impl_sums.mono : ∀ a0 a1 a2 a3 a4 k, LeO (impl_sums.f k a0 a1 a2 a3 a4) (impl_sums.f (k + 1) a0 a1 a2 a3 a4) := by
  intro a0 a1 a2 a3 a4 k
  have ih0 := impl_sums.mono_l k
  unfold impl_sums.f
  repeat' first
      | (with_reducible exact ih0 _ _ _ _ _ _ _)
      | (with_reducible exact LeO.refl _)
      | (with_reducible exact LeO.none _)
      | (with_reducible refine LeO.ite ?_ ?_)
      | (with_reducible refine LeO.bind ?_ (fun _ => ?_))
      | exact ih0 _ _ _ _ _ _ _
      | exact LeO.none _
      | refine LeO.ite ?_ ?_
      | refine LeO.bind ?_ (fun _ => ?_)
set_option maxHeartbeats 8000000 in
set_option maxRecDepth 100000 in
theorem impl_sums.calls (k : Nat) (A0_0 : Option Addr) (c0_0 : Nat) (l0_0 : List Bool) (A0_1 : Option Addr) (c0_1 : Nat) (l0_1 : List Bool) (A1_0 : Option Addr) (c1_0 : Nat) (l1_0 : List Bool) (A1_1 : Option Addr) (c1_1 : Nat) (l1_1 : List Bool) (a2 : Int) (r : Bool) (w : World) (hr0_0 : Kd.C Kd.bool w A0_0 l0_0.length l0_0) (hc0_0 : l0_0.length ≤ c0_0) (hr0_1 : Kd.C Kd.bool w A0_1 l0_1.length l0_1) (hc0_1 : l0_1.length ≤ c0_1) (hr1_0 : Kd.C Kd.bool w A1_0 l1_0.length l1_0) (hc1_0 : l1_0.length ≤ c1_0) (hr1_1 : Kd.C Kd.bool w A1_1 l1_1.length l1_1) (hc1_1 : l1_1.length ≤ c1_1) (h : impl_sums.f k l0_0 l0_1 l1_0 l1_1 a2 = some r) :
    Calls Try.prog 34 #[.agg #[.slice A0_0 l0_0.length c0_0, .slice A0_1 l0_1.length c0_1], .agg #[.slice A1_0 l1_0.length c1_0, .slice A1_1 l1_1.length c1_1], .int .i64 a2] w fun e w' => e = .returned (.bool r) ∧ Below w.heap.size w w' := by
  have hu42 := Try.underlying42
  have HR0_0 := Aside0.mk hr0_0
  have HC0_0 := Aside0.mk hc0_0
  clear hr0_0 hc0_0
  have HR0_1 := Aside0.mk hr0_1
  have HC0_1 := Aside0.mk hc0_1
  clear hr0_1 hc0_1
  have HR1_0 := Aside0.mk hr1_0
  have HC1_0 := Aside0.mk hc1_0
  clear hr1_0 hc1_0
  have HR1_1 := Aside0.mk hr1_1
  have HC1_1 := Aside0.mk hc1_1
  clear hr1_1 hc1_1
  have HB := Aside0.mk (Below.refl w.heap.size w)
  have H : (impl_sums.l0 k a2 (wrap64 (a2 + 1)) 0 l0_0 l0_1 l1_0 l1_1) = some r := h
  clear h
  have H' := Aside0.mk H
  clear H
  go_enter Try.func34, Try.ntmps34
  go_wp2_with (first | ((with_reducible refine gate_dst (N := 3) rfl ?_); refine box_event ?hg (N := 3) ?hd (cs := #[.slice A0_0 l0_0.length c0_0, .slice A0_1 l0_1.length c0_1]) (t := 42) ?hr ?_; (case hd => rfl); (case hg => rfl); (case hr => first | (go_simp; done) | (go_simp; rfl)); intro gb434 hg w4 hbox hb; have n0_ := Aside0.mk (below_step (by repeat (first | (with_reducible first | exact HB.out | apply below_alloc | apply pw_below_drewN | apply below_drew1) | exact HB.out)) hb); have n1_ := Aside0.mk (hbox); have n2_ := Aside0.mk ((by rw [hg]; exact (below_size (by repeat (first | (with_reducible first | exact HB.out | apply below_alloc | apply pw_below_drewN | apply below_drew1) | exact HB.out))) : w.heap.size ≤ gb434)); have n3_ := Aside0.mk ((by rw [hg]; exact (below_size (by repeat (first | (with_reducible first | exact HB.out | apply below_alloc | apply pw_below_drewN | apply below_drew1) | exact HB.out))) : w.heap.size ≤ gb434)); clear HB; have HB := n0_; have BK434 := n1_; have GW434 := n2_; have GE434 := n3_; clear n0_ n1_ n2_ n3_; clear hb hbox hg) | ((with_reducible refine gate_dst (N := 4) rfl ?_); refine box_event ?hg (N := 4) ?hd (cs := #[.slice A1_0 l1_0.length c1_0, .slice A1_1 l1_1.length c1_1]) (t := 42) ?hr ?_; (case hd => rfl); (case hg => rfl); (case hr => first | (go_simp; done) | (go_simp; rfl)); intro gb435 hg w5 hbox hb; have n0_ := Aside0.mk (blk_below (g := gb434) (o := .cells #[.slice A0_0 l0_0.length c0_0, .slice A0_1 l0_1.length c0_1] 42 (0, 0)) (by (with_reducible repeat (first | refine blk_drewN ?_ _ | refine blk_drew ?_ | refine blk_alloc ?_ _)); exact BK434.out) hb); have n1_ := Aside0.mk (below_step (by repeat (first | (with_reducible first | exact HB.out | apply below_alloc | apply pw_below_drewN | apply below_drew1 | refine below_set ?_ GE434.out) | exact HB.out)) hb); have n2_ := Aside0.mk (hbox); have n3_ := Aside0.mk ((by rw [hg]; exact (below_size (by repeat (first | (with_reducible first | exact HB.out | apply below_alloc | apply pw_below_drewN | apply below_drew1 | refine below_set ?_ GE434.out) | exact HB.out))) : w.heap.size ≤ gb435)); have n4_ := Aside0.mk ((by rw [hg]; exact (below_size (by repeat (first | (with_reducible first | exact HB.out | apply below_alloc | apply pw_below_drewN | apply below_drew1 | refine below_set ?_ GE434.out) | exact HB.out))) : w.heap.size ≤ gb435)); have n5_ := Aside0.mk ((by rw [hg]; exact Nat.ne_of_lt (blk_lt (g := gb434) (o := .cells #[.slice A0_0 l0_0.length c0_0, .slice A0_1 l0_1.length c0_1] 42 (0, 0)) (by (with_reducible repeat (first | refine blk_drewN ?_ _ | refine blk_drew ?_ | refine blk_alloc ?_ _)); exact BK434.out)) : gb434 ≠ gb435)); have n6_ := Aside0.mk ((by rw [hg]; exact Nat.ne_of_gt (blk_lt (g := gb434) (o := .cells #[.slice A0_0 l0_0.length c0_0, .slice A0_1 l0_1.length c0_1] 42 (0, 0)) (by (with_reducible repeat (first | refine blk_drewN ?_ _ | refine blk_drew ?_ | refine blk_alloc ?_ _)); exact BK434.out)) : gb435 ≠ gb434)); clear BK434; clear HB; have BK434 := n0_; have HB := n1_; have BK435 := n2_; have GW435 := n3_; have GE435 := n4_; have NB434_435 := n5_; have NB435_434 := n6_; clear n0_ n1_ n2_ n3_ n4_ n5_ n6_; clear hb hbox hg))
  go_loopg [10] k (fun kq v10 w' => ∃ (x10_1 : Int), v10 = .int .i64 x10_1 ∧ Aside0 (impl_sums.l0 kq a2 (wrap64 (a2 + 1)) x10_1 l0_0 l0_1 l1_0 l1_1 = some r) ∧ Aside0 (kq ≤ k) ∧ Aside0 (w'.heap[gb434]? = some (.cells #[(.slice A0_0 l0_0.length c0_0), (.slice A0_1 l0_1.length c0_1)] 42 (0, 0))) ∧ Aside0 (w'.heap[gb435]? = some (.cells #[(.slice A1_0 l1_0.length c1_0), (.slice A1_1 l1_1.length c1_1)] 42 (0, 0))) ∧ Aside0 (Below w.heap.size w w'))
  case atStart => exact ⟨(0), (by first | rfl | (simp; done) | (simp [*]; done) | (simp [Int.tmod_eq_emod_of_nonneg]; done)), H', ⟨Nat.le_refl _⟩, ⟨by (with_reducible repeat (first | refine blk_drewN ?_ _ | refine blk_drew ?_ | refine blk_alloc ?_ _)); exact BK434.out⟩, ⟨by (with_reducible repeat (first | refine blk_drewN ?_ _ | refine blk_drew ?_ | refine blk_alloc ?_ _)); exact BK435.out⟩, ⟨by repeat (first | (with_reducible first | exact HB.out | apply below_alloc | apply pw_below_drewN | apply below_drew1 | refine below_set ?_ GE434.out | refine below_set ?_ GE435.out) | exact HB.out)⟩⟩
  case round =>
    clear H'
    try clear c1
    try clear p2
    try clear c3
    obtain ⟨x10_1, rfl, HA, HK1, BK434, BK435, HB⟩ := hrel
    cases gk with
    | zero => exact absurd HA.out (by simp [impl_sums.l0])
    | succ k1 =>
      have H := HA.out
      clear HA
      simp only [impl_sums.l0] at H
      by_cases c6 : x10_1 < (wrap64 (a2 + 1))
      · rw [if_pos c6] at H
        have c6b0 : decide (x10_1 < (wrap64 (a2 + 1))) = true := decide_eq_true c6
        clear c6
        replace H := Option.bind_eq_some_iff.mp H
        obtain ⟨t436, A70, H⟩ := H
        replace H : (if t436 = true then ((impl_set_has.f l1_0 l1_1 (wrap64 (a2 - x10_1))).bind fun t437 => (if t437 = true then (some true) else (impl_sums.l0 k1 a2 (wrap64 (a2 + 1)) (wrap64 (x10_1 + 1)) l0_0 l0_1 l1_0 l1_1))) else (impl_sums.l0 k1 a2 (wrap64 (a2 + 1)) (wrap64 (x10_1 + 1)) l0_0 l0_1 l1_0 l1_1)) = some r := H
        have A7 := Aside0.mk A70
        clear A70
        by_cases c8 : t436 = true
        · subst c8
          have H1 : ((impl_set_has.f l1_0 l1_1 (wrap64 (a2 - x10_1))).bind fun t437 => (if t437 = true then (some true) else (impl_sums.l0 k1 a2 (wrap64 (a2 + 1)) (wrap64 (x10_1 + 1)) l0_0 l0_1 l1_0 l1_1))) = some r := by rw [if_pos rfl] at H; exact H
          clear H
          have H := H1
          clear H1
          replace H := Option.bind_eq_some_iff.mp H
          obtain ⟨t437, A90, H⟩ := H
          replace H : (if t437 = true then (some true) else (impl_sums.l0 k1 a2 (wrap64 (a2 + 1)) (wrap64 (x10_1 + 1)) l0_0 l0_1 l1_0 l1_1)) = some r := H
          have A9 := Aside0.mk A90
          clear A90
          by_cases c10 : t437 = true
          · subst c10
            have H1 : (some true) = some r := by rw [if_pos rfl] at H; exact H
            clear H
            have H := H1
            clear H1
            obtain rfl := Option.some.inj H
            have hnb11 := NB434_435.out
            have hnc11 := NB435_434.out
            have hcz12_0 : wr.cell? ⟨gb434, 0, none⟩ = some (.slice A0_0 l0_0.length c0_0) := (blk_cell BK434.out 0).trans rfl
            have hcz12_1 : wr.cell? ⟨gb434, 1, none⟩ = some (.slice A0_1 l0_1.length c0_1) := (blk_cell BK434.out 1).trans rfl
            have hfz12_0 := blk_frozen BK434.out 0
            have hfz12_1 := blk_frozen BK434.out 1
            go_wp2_with (first | ((with_reducible refine gate_callee (f := 29) rfl ?_); refine goesL_ (some 15) rfl rfl Try.func29 (by kernel_rfl) rfl #[.agg #[.slice A0_0 l0_0.length c0_0, .slice A0_1 l0_1.length c0_1], .int .i64 x10_1] rfl (by (try simp only [List.map_toArray, List.map_cons, List.map_nil]); first | done | rfl | (simp only [List.length_drop, List.length_take]; rfl)) ?_; (with_reducible refine (impl_set_has.calls _ _ l0_0 _ _ l0_1 x10_1 true _ ?side1 ?side2 ?side3 ?side4 A7.out).mono ?_); (case side1 => repeat (first | exact (Kd.C_below HR0_0.out HB.out) | (with_reducible refine Kd.C_alloc ?_ _) | (with_reducible refine Kd.C_drewN ?_ _) | (with_reducible refine Kd.C_drew ?_))); (case side2 => exact HC0_0.out); (case side3 => repeat (first | exact (Kd.C_below HR0_1.out HB.out) | (with_reducible refine Kd.C_alloc ?_ _) | (with_reducible refine Kd.C_drewN ?_ _) | (with_reducible refine Kd.C_drew ?_))); (case side4 => exact HC0_1.out); rintro e w13 ⟨rfl, hb⟩; refine ⟨_, rfl, ?_⟩; have n0_ := Aside0.mk (blk_below (g := gb434) (o := .cells #[.slice A0_0 l0_0.length c0_0, .slice A0_1 l0_1.length c0_1] 42 (0, 0)) (by (with_reducible repeat (first | refine blk_drewN ?_ _ | refine blk_drew ?_ | refine blk_alloc ?_ _)); exact BK434.out) hb); have n1_ := Aside0.mk (blk_below (g := gb435) (o := .cells #[.slice A1_0 l1_0.length c1_0, .slice A1_1 l1_1.length c1_1] 42 (0, 0)) (by (with_reducible repeat (first | refine blk_drewN ?_ _ | refine blk_drew ?_ | refine blk_alloc ?_ _)); exact BK435.out) hb); have n2_ := Aside0.mk (below_step (by repeat (first | (with_reducible first | exact HB.out | apply below_alloc | apply pw_below_drewN | apply below_drew1 | refine below_set ?_ GE434.out | refine below_set ?_ GE435.out) | exact HB.out)) hb); clear BK434; clear BK435; clear HB; have BK434 := n0_; have BK435 := n1_; have HB := n2_; clear n0_ n1_ n2_; (try clear hb); (try clear hb2); (try clear hk); (try clear hi); have hcz14_0 : w13.cell? ⟨gb435, 0, none⟩ = some (.slice A1_0 l1_0.length c1_0) := (blk_cell BK435.out 0).trans rfl; have hcz14_1 : w13.cell? ⟨gb435, 1, none⟩ = some (.slice A1_1 l1_1.length c1_1) := (blk_cell BK435.out 1).trans rfl; have hfz14_0 := blk_frozen BK435.out 0; have hfz14_1 := blk_frozen BK435.out 1) | (go_at_call 29; (with_reducible refine (impl_set_has.calls _ _ l1_0 _ _ l1_1 (wrap64 (a2 - x10_1)) true _ ?side1 ?side2 ?side3 ?side4 A9.out).mono ?_); (case side1 => repeat (first | exact (Kd.C_below HR1_0.out HB.out) | (with_reducible refine Kd.C_alloc ?_ _) | (with_reducible refine Kd.C_drewN ?_ _) | (with_reducible refine Kd.C_drew ?_))); (case side2 => exact HC1_0.out); (case side3 => repeat (first | exact (Kd.C_below HR1_1.out HB.out) | (with_reducible refine Kd.C_alloc ?_ _) | (with_reducible refine Kd.C_drewN ?_ _) | (with_reducible refine Kd.C_drew ?_))); (case side4 => exact HC1_1.out); rintro e w15 ⟨rfl, hb⟩; have n0_ := Aside0.mk (blk_below (g := gb434) (o := .cells #[.slice A0_0 l0_0.length c0_0, .slice A0_1 l0_1.length c0_1] 42 (0, 0)) (by (with_reducible repeat (first | refine blk_drewN ?_ _ | refine blk_drew ?_ | refine blk_alloc ?_ _)); exact BK434.out) hb); have n1_ := Aside0.mk (blk_below (g := gb435) (o := .cells #[.slice A1_0 l1_0.length c1_0, .slice A1_1 l1_1.length c1_1] 42 (0, 0)) (by (with_reducible repeat (first | refine blk_drewN ?_ _ | refine blk_drew ?_ | refine blk_alloc ?_ _)); exact BK435.out) hb); have n2_ := Aside0.mk (below_step (by repeat (first | (with_reducible first | exact HB.out | apply below_alloc | apply pw_below_drewN | apply below_drew1 | refine below_set ?_ GE434.out | refine below_set ?_ GE435.out) | exact HB.out)) hb); clear BK434; clear BK435; clear HB; have BK434 := n0_; have BK435 := n1_; have HB := n2_; clear n0_ n1_ n2_; (try clear hb); (try clear hb2); (try clear hk); (try clear hi)))
            go_ret
            exact ⟨by first | rfl | (simp [errW_none, errW_some] <;> rfl) | (simp [*, errW_none, errW_some] <;> rfl) | (simp [errW_none, errW_some]; exact ⟨rfl, rfl⟩), by repeat (first | (with_reducible first | exact HB.out | apply below_alloc | apply pw_below_drewN | apply below_drew1 | refine below_set ?_ GE434.out | refine below_set ?_ GE435.out) | exact HB.out)⟩
          · replace c10 := Bool.eq_false_iff.mpr c10
            subst c10
            have H1 : (impl_sums.l0 k1 a2 (wrap64 (a2 + 1)) (wrap64 (x10_1 + 1)) l0_0 l0_1 l1_0 l1_1) = some r := by rw [if_neg (show ¬ (false = true) by decide)] at H; exact H
            clear H
            have H := H1
            clear H1
            have H' := Aside0.mk H
            clear H
            have hnb16 := NB434_435.out
            have hnc16 := NB435_434.out
            have hcz17_0 : wr.cell? ⟨gb434, 0, none⟩ = some (.slice A0_0 l0_0.length c0_0) := (blk_cell BK434.out 0).trans rfl
            have hcz17_1 : wr.cell? ⟨gb434, 1, none⟩ = some (.slice A0_1 l0_1.length c0_1) := (blk_cell BK434.out 1).trans rfl
            have hfz17_0 := blk_frozen BK434.out 0
            have hfz17_1 := blk_frozen BK434.out 1
            go_wp2_with (first | ((with_reducible refine gate_callee (f := 29) rfl ?_); refine goesL_ (some 15) rfl rfl Try.func29 (by kernel_rfl) rfl #[.agg #[.slice A0_0 l0_0.length c0_0, .slice A0_1 l0_1.length c0_1], .int .i64 x10_1] rfl (by (try simp only [List.map_toArray, List.map_cons, List.map_nil]); first | done | rfl | (simp only [List.length_drop, List.length_take]; rfl)) ?_; (with_reducible refine (impl_set_has.calls _ _ l0_0 _ _ l0_1 x10_1 true _ ?side1 ?side2 ?side3 ?side4 A7.out).mono ?_); (case side1 => repeat (first | exact (Kd.C_below HR0_0.out HB.out) | (with_reducible refine Kd.C_alloc ?_ _) | (with_reducible refine Kd.C_drewN ?_ _) | (with_reducible refine Kd.C_drew ?_))); (case side2 => exact HC0_0.out); (case side3 => repeat (first | exact (Kd.C_below HR0_1.out HB.out) | (with_reducible refine Kd.C_alloc ?_ _) | (with_reducible refine Kd.C_drewN ?_ _) | (with_reducible refine Kd.C_drew ?_))); (case side4 => exact HC0_1.out); rintro e w18 ⟨rfl, hb⟩; refine ⟨_, rfl, ?_⟩; have n0_ := Aside0.mk (blk_below (g := gb434) (o := .cells #[.slice A0_0 l0_0.length c0_0, .slice A0_1 l0_1.length c0_1] 42 (0, 0)) (by (with_reducible repeat (first | refine blk_drewN ?_ _ | refine blk_drew ?_ | refine blk_alloc ?_ _)); exact BK434.out) hb); have n1_ := Aside0.mk (blk_below (g := gb435) (o := .cells #[.slice A1_0 l1_0.length c1_0, .slice A1_1 l1_1.length c1_1] 42 (0, 0)) (by (with_reducible repeat (first | refine blk_drewN ?_ _ | refine blk_drew ?_ | refine blk_alloc ?_ _)); exact BK435.out) hb); have n2_ := Aside0.mk (below_step (by repeat (first | (with_reducible first | exact HB.out | apply below_alloc | apply pw_below_drewN | apply below_drew1 | refine below_set ?_ GE434.out | refine below_set ?_ GE435.out) | exact HB.out)) hb); clear BK434; clear BK435; clear HB; have BK434 := n0_; have BK435 := n1_; have HB := n2_; clear n0_ n1_ n2_; (try clear hb); (try clear hb2); (try clear hk); (try clear hi); have hcz19_0 : w18.cell? ⟨gb435, 0, none⟩ = some (.slice A1_0 l1_0.length c1_0) := (blk_cell BK435.out 0).trans rfl; have hcz19_1 : w18.cell? ⟨gb435, 1, none⟩ = some (.slice A1_1 l1_1.length c1_1) := (blk_cell BK435.out 1).trans rfl; have hfz19_0 := blk_frozen BK435.out 0; have hfz19_1 := blk_frozen BK435.out 1) | (go_at_call 29; (with_reducible refine (impl_set_has.calls _ _ l1_0 _ _ l1_1 (wrap64 (a2 - x10_1)) false _ ?side1 ?side2 ?side3 ?side4 A9.out).mono ?_); (case side1 => repeat (first | exact (Kd.C_below HR1_0.out HB.out) | (with_reducible refine Kd.C_alloc ?_ _) | (with_reducible refine Kd.C_drewN ?_ _) | (with_reducible refine Kd.C_drew ?_))); (case side2 => exact HC1_0.out); (case side3 => repeat (first | exact (Kd.C_below HR1_1.out HB.out) | (with_reducible refine Kd.C_alloc ?_ _) | (with_reducible refine Kd.C_drewN ?_ _) | (with_reducible refine Kd.C_drew ?_))); (case side4 => exact HC1_1.out); rintro e w20 ⟨rfl, hb⟩; have n0_ := Aside0.mk (blk_below (g := gb434) (o := .cells #[.slice A0_0 l0_0.length c0_0, .slice A0_1 l0_1.length c0_1] 42 (0, 0)) (by (with_reducible repeat (first | refine blk_drewN ?_ _ | refine blk_drew ?_ | refine blk_alloc ?_ _)); exact BK434.out) hb); have n1_ := Aside0.mk (blk_below (g := gb435) (o := .cells #[.slice A1_0 l1_0.length c1_0, .slice A1_1 l1_1.length c1_1] 42 (0, 0)) (by (with_reducible repeat (first | refine blk_drewN ?_ _ | refine blk_drew ?_ | refine blk_alloc ?_ _)); exact BK435.out) hb); have n2_ := Aside0.mk (below_step (by repeat (first | (with_reducible first | exact HB.out | apply below_alloc | apply pw_below_drewN | apply below_drew1 | refine below_set ?_ GE434.out | refine below_set ?_ GE435.out) | exact HB.out)) hb); clear BK434; clear BK435; clear HB; have BK434 := n0_; have BK435 := n1_; have HB := n2_; clear n0_ n1_ n2_; (try clear hb); (try clear hb2); (try clear hk); (try clear hi)))
            go_roundg k1
            case measure => have := HK1.out; omega
            case rel => exact ⟨(wrap64 (x10_1 + 1)), (by first | rfl | (simp; done) | (simp [*]; done) | (simp [Int.tmod_eq_emod_of_nonneg]; done)), H', ⟨by have := HK1.out; omega⟩, ⟨by (with_reducible repeat (first | refine blk_drewN ?_ _ | refine blk_drew ?_ | refine blk_alloc ?_ _)); exact BK434.out⟩, ⟨by (with_reducible repeat (first | refine blk_drewN ?_ _ | refine blk_drew ?_ | refine blk_alloc ?_ _)); exact BK435.out⟩, ⟨by repeat (first | (with_reducible first | exact HB.out | apply below_alloc | apply pw_below_drewN | apply below_drew1 | refine below_set ?_ GE434.out | refine below_set ?_ GE435.out) | exact HB.out)⟩⟩
        · replace c8 := Bool.eq_false_iff.mpr c8
          subst c8
          have H1 : (impl_sums.l0 k1 a2 (wrap64 (a2 + 1)) (wrap64 (x10_1 + 1)) l0_0 l0_1 l1_0 l1_1) = some r := by rw [if_neg (show ¬ (false = true) by decide)] at H; exact H
          clear H
          have H := H1
          clear H1
          have H' := Aside0.mk H
          clear H
          have hnb21 := NB434_435.out
          have hnc21 := NB435_434.out
          have hcz22_0 : wr.cell? ⟨gb434, 0, none⟩ = some (.slice A0_0 l0_0.length c0_0) := (blk_cell BK434.out 0).trans rfl
          have hcz22_1 : wr.cell? ⟨gb434, 1, none⟩ = some (.slice A0_1 l0_1.length c0_1) := (blk_cell BK434.out 1).trans rfl
          have hfz22_0 := blk_frozen BK434.out 0
          have hfz22_1 := blk_frozen BK434.out 1
          go_wp2_with (first | ((with_reducible refine gate_callee (f := 29) rfl ?_); refine goesL_ (some 15) rfl rfl Try.func29 (by kernel_rfl) rfl #[.agg #[.slice A0_0 l0_0.length c0_0, .slice A0_1 l0_1.length c0_1], .int .i64 x10_1] rfl (by (try simp only [List.map_toArray, List.map_cons, List.map_nil]); first | done | rfl | (simp only [List.length_drop, List.length_take]; rfl)) ?_; (with_reducible refine (impl_set_has.calls _ _ l0_0 _ _ l0_1 x10_1 false _ ?side1 ?side2 ?side3 ?side4 A7.out).mono ?_); (case side1 => repeat (first | exact (Kd.C_below HR0_0.out HB.out) | (with_reducible refine Kd.C_alloc ?_ _) | (with_reducible refine Kd.C_drewN ?_ _) | (with_reducible refine Kd.C_drew ?_))); (case side2 => exact HC0_0.out); (case side3 => repeat (first | exact (Kd.C_below HR0_1.out HB.out) | (with_reducible refine Kd.C_alloc ?_ _) | (with_reducible refine Kd.C_drewN ?_ _) | (with_reducible refine Kd.C_drew ?_))); (case side4 => exact HC0_1.out); rintro e w23 ⟨rfl, hb⟩; refine ⟨_, rfl, ?_⟩; have n0_ := Aside0.mk (blk_below (g := gb434) (o := .cells #[.slice A0_0 l0_0.length c0_0, .slice A0_1 l0_1.length c0_1] 42 (0, 0)) (by (with_reducible repeat (first | refine blk_drewN ?_ _ | refine blk_drew ?_ | refine blk_alloc ?_ _)); exact BK434.out) hb); have n1_ := Aside0.mk (blk_below (g := gb435) (o := .cells #[.slice A1_0 l1_0.length c1_0, .slice A1_1 l1_1.length c1_1] 42 (0, 0)) (by (with_reducible repeat (first | refine blk_drewN ?_ _ | refine blk_drew ?_ | refine blk_alloc ?_ _)); exact BK435.out) hb); have n2_ := Aside0.mk (below_step (by repeat (first | (with_reducible first | exact HB.out | apply below_alloc | apply pw_below_drewN | apply below_drew1 | refine below_set ?_ GE434.out | refine below_set ?_ GE435.out) | exact HB.out)) hb); clear BK434; clear BK435; clear HB; have BK434 := n0_; have BK435 := n1_; have HB := n2_; clear n0_ n1_ n2_; (try clear hb); (try clear hb2); (try clear hk); (try clear hi)))
          go_roundg k1
          case measure => have := HK1.out; omega
          case rel => exact ⟨(wrap64 (x10_1 + 1)), (by first | rfl | (simp; done) | (simp [*]; done) | (simp [Int.tmod_eq_emod_of_nonneg]; done)), H', ⟨by have := HK1.out; omega⟩, ⟨by (with_reducible repeat (first | refine blk_drewN ?_ _ | refine blk_drew ?_ | refine blk_alloc ?_ _)); exact BK434.out⟩, ⟨by (with_reducible repeat (first | refine blk_drewN ?_ _ | refine blk_drew ?_ | refine blk_alloc ?_ _)); exact BK435.out⟩, ⟨by repeat (first | (with_reducible first | exact HB.out | apply below_alloc | apply pw_below_drewN | apply below_drew1 | refine below_set ?_ GE434.out | refine below_set ?_ GE435.out) | exact HB.out)⟩⟩
      · rw [if_neg c6] at H
        have c6b0 : decide (x10_1 < (wrap64 (a2 + 1))) = false := decide_eq_false c6
        clear c6
        obtain rfl := Option.some.inj H
        go_wp2
        go_ret
        exact ⟨by first | rfl | (simp [errW_none, errW_some] <;> rfl) | (simp [*, errW_none, errW_some] <;> rfl) | (simp [errW_none, errW_some]; exact ⟨rfl, rfl⟩), by repeat (first | (with_reducible first | exact HB.out | apply below_alloc | apply pw_below_drewN | apply below_drew1 | refine below_set ?_ GE434.out | refine below_set ?_ GE435.out) | exact HB.out)⟩

end Go.Proofs.Ytimjajkkgfbanaa.P

namespace Go.Proofs.Ytimjajkkgfbanaa.P
open Go.RowKit Go.Proofs.YtimjajkkgfbanaaW.PrintWords Go.Proofs.YtimjajkkgfbanaaW.PrintLast Go.Proofs.YtimjajkkgfbanaaW.PrintMore
attribute [local go_sem] max2_int min2_int max_two min_two max_three min_three max_four min_four   -- for this text's walks alone
set_option linter.unusedVariables false
set_option linter.unusedSimpArgs false

/-! ### spec_SumOf: function 14 -/
def spec_SumOf.f (k : Nat) (a0 : ByteArray) (a1 : ByteArray) : Option (ByteArray × Bool) := (spec_l4Small.f k a0).bind fun bt415 => ((spec_l4Small.f k a1).bind fun bt423 => (if bt415.2.2 = true then (if bt423.2.2 = true then ((spec_l4Sum.f k bt415.1 bt415.2.1 bt423.1 bt423.2.1 false).bind fun bt431 => (some (bt431.1, bt431.2))) else (some ((⟨#[]⟩ : ByteArray), false))) else (some ((⟨#[]⟩ : ByteArray), false))))
theorem spec_SumOf.mono : ∀ a0 a1 k, LeO (spec_SumOf.f k a0 a1) (spec_SumOf.f (k + 1) a0 a1) := by
  intro a0 a1 k
  unfold spec_SumOf.f
  repeat' first
      | (with_reducible exact spec_l4Small.mono _ _)
      | (with_reducible exact spec_l4Sum.mono _ _ _ _ _ _)
      | (with_reducible exact LeO.refl _)
      | (with_reducible exact LeO.none _)
      | (with_reducible refine LeO.ite ?_ ?_)
      | (with_reducible refine LeO.bind ?_ (fun _ => ?_))
      | exact spec_l4Small.mono _ _
      | exact spec_l4Sum.mono _ _ _ _ _ _
      | exact LeO.none _
      | refine LeO.ite ?_ ?_
      | refine LeO.bind ?_ (fun _ => ?_)
set_option maxHeartbeats 8000000 in
set_option maxRecDepth 100000 in
theorem spec_SumOf.calls (k : Nat) (a0 : ByteArray) (a1 : ByteArray) (r1 : ByteArray) (r2 : Bool) (w : World) (h : spec_SumOf.f k a0 a1 = some (r1, r2)) :
    Calls Try.prog 14 #[.string a0, .string a1] w fun e w' => e = .returned (.tuple #[.string r1, .bool r2]) ∧ Below w.heap.size w w' := by
  have hu36 := Try.underlying36
  have HB := Aside0.mk (Below.refl w.heap.size w)
  have H : ((spec_l4Small.f k a0).bind fun bt415 => ((spec_l4Small.f k a1).bind fun bt423 => (if bt415.2.2 = true then (if bt423.2.2 = true then ((spec_l4Sum.f k bt415.1 bt415.2.1 bt423.1 bt423.2.1 false).bind fun bt431 => (some (bt431.1, bt431.2))) else (some ((⟨#[]⟩ : ByteArray), false))) else (some ((⟨#[]⟩ : ByteArray), false))))) = some (r1, r2) := h
  clear h
  replace H := Option.bind_eq_some_iff.mp H
  obtain ⟨⟨t415, t418, t421⟩, A30, H⟩ := H
  replace H : ((spec_l4Small.f k a1).bind fun bt423 => (if t421 = true then (if bt423.2.2 = true then ((spec_l4Sum.f k t415 t418 bt423.1 bt423.2.1 false).bind fun bt431 => (some (bt431.1, bt431.2))) else (some ((⟨#[]⟩ : ByteArray), false))) else (some ((⟨#[]⟩ : ByteArray), false)))) = some (r1, r2) := H
  have A3 := Aside0.mk A30
  clear A30
  replace H := Option.bind_eq_some_iff.mp H
  obtain ⟨⟨t423, t426, t429⟩, A40, H⟩ := H
  replace H : (if t421 = true then (if t429 = true then ((spec_l4Sum.f k t415 t418 t423 t426 false).bind fun bt431 => (some (bt431.1, bt431.2))) else (some ((⟨#[]⟩ : ByteArray), false))) else (some ((⟨#[]⟩ : ByteArray), false))) = some (r1, r2) := H
  have A4 := Aside0.mk A40
  clear A40
  by_cases c5 : t421 = true
  · subst c5
    have H1 : (if t429 = true then ((spec_l4Sum.f k t415 t418 t423 t426 false).bind fun bt431 => (some (bt431.1, bt431.2))) else (some ((⟨#[]⟩ : ByteArray), false))) = some (r1, r2) := by rw [if_pos rfl] at H; exact H
    clear H
    have H := H1
    clear H1
    by_cases c6 : t429 = true
    · subst c6
      have H1 : ((spec_l4Sum.f k t415 t418 t423 t426 false).bind fun bt431 => (some (bt431.1, bt431.2))) = some (r1, r2) := by rw [if_pos rfl] at H; exact H
      clear H
      have H := H1
      clear H1
      replace H := Option.bind_eq_some_iff.mp H
      obtain ⟨⟨t431, t432⟩, A70, H⟩ := H
      replace H : (some (t431, t432)) = some (r1, r2) := H
      have A7 := Aside0.mk A70
      clear A70
      simp only [Option.some.injEq, Prod.mk.injEq] at H
      obtain ⟨rfl, rfl⟩ := H
      go_enter Try.func14, Try.ntmps14
      go_wp2_with (first | ((with_reducible refine gate_callee (f := 24) rfl ?_); refine goesL_ (some 12) rfl rfl Try.func24 (by kernel_rfl) rfl #[.string a0] rfl (by (try simp only [List.map_toArray, List.map_cons, List.map_nil]); first | done | rfl | (simp only [List.length_drop, List.length_take]; rfl)) ?_; (with_reducible refine (spec_l4Small.calls k a0 t415 t418 true _ A3.out).mono ?_); rintro e w8 ⟨v416, v419, rfl, ho0, ho1, hb⟩; refine ⟨_, rfl, ?_⟩; have n0_ := Aside0.mk (Kd.V_lower (Kd.V_mono (ok' := fun k_ => True) ho0 (fun k_ hk_ => trivial)) (below_size (by repeat (first | (with_reducible first | exact HB.out | apply below_alloc | apply pw_below_drewN | apply below_drew1) | exact HB.out)))); have n1_ := Aside0.mk (Kd.V_lower (Kd.V_mono (ok' := fun k_ => True) ho1 (fun k_ hk_ => trivial)) (below_size (by repeat (first | (with_reducible first | exact HB.out | apply below_alloc | apply pw_below_drewN | apply below_drew1) | exact HB.out)))); have n2_ := Aside0.mk (below_step (by repeat (first | (with_reducible first | exact HB.out | apply below_alloc | apply pw_below_drewN | apply below_drew1) | exact HB.out)) hb); clear HB; have HO417 := n0_; have HO420 := n1_; have HB := n2_; clear n0_ n1_ n2_; (try clear hb); (try clear hb2); (try clear hk); (try clear hi); (try clear ho0); (try clear ho1)) | ((with_reducible refine gate_dst (N := 6) rfl ?_); refine box_event ?hg (N := 6) ?hd (cs := #[.slice none 0 0, .slice none 0 0]) (t := 36) ?hr ?_; (case hd => rfl); (case hg => rfl); (case hr => first | (go_simp; done) | (go_simp; rfl)); intro gb422 hg w9 hbox hb; have n0_ := Aside0.mk (Kd.V_below (Kd.V_elderB (by (with_reducible repeat (first | apply Kd.V_alloc | apply Kd.V_drewN | apply Kd.V_drew)); exact HO417.out) gb422 (Nat.le_of_eq hg.symm)) hb); have n1_ := Aside0.mk (Kd.V_below (Kd.V_elderB (by (with_reducible repeat (first | apply Kd.V_alloc | apply Kd.V_drewN | apply Kd.V_drew)); exact HO420.out) gb422 (Nat.le_of_eq hg.symm)) hb); have n2_ := Aside0.mk (below_step (by repeat (first | (with_reducible first | exact HB.out | apply below_alloc | apply pw_below_drewN | apply below_drew1) | exact HB.out)) hb); have n3_ := Aside0.mk (hbox); have n4_ := Aside0.mk ((by rw [hg]; exact (below_size (by repeat (first | (with_reducible first | exact HB.out | apply below_alloc | apply pw_below_drewN | apply below_drew1) | exact HB.out))) : w.heap.size ≤ gb422)); have n5_ := Aside0.mk ((by rw [hg]; exact (below_size (by repeat (first | (with_reducible first | exact HB.out | apply below_alloc | apply pw_below_drewN | apply below_drew1) | exact HB.out))) : w.heap.size ≤ gb422)); clear HO417; clear HO420; clear HB; have HO417 := n0_; have HO420 := n1_; have HB := n2_; have BK422 := n3_; have GW422 := n4_; have GE422 := n5_; clear n0_ n1_ n2_ n3_ n4_ n5_; clear hb hbox hg; obtain ⟨Ao10, co10, eo10⟩ := Kd.V_slice HO417.out; subst eo10; have hcz11_0 : w9.cell? ⟨gb422, 0, none⟩ = some (.slice none 0 0) := (blk_cell BK422.out 0).trans rfl; have hcz11_1 : w9.cell? ⟨gb422, 1, none⟩ = some (.slice none 0 0) := (blk_cell BK422.out 1).trans rfl; have hfz11_0 := blk_frozen BK422.out 0; have hfz11_1 := blk_frozen BK422.out 1; obtain ⟨Ao12, co12, eo12⟩ := Kd.V_slice HO420.out; subst eo12) | ((with_reducible refine gate_callee (f := 24) rfl ?_); refine goesL_ (some 17) rfl rfl Try.func24 (by kernel_rfl) rfl #[.string a1] rfl (by (try simp only [List.map_toArray, List.map_cons, List.map_nil]); first | done | rfl | (simp only [List.length_drop, List.length_take]; rfl)) ?_; (with_reducible refine (spec_l4Small.calls k a1 t423 t426 true _ A4.out).mono ?_); rintro e w13 ⟨v424, v427, rfl, ho0, ho1, hb⟩; refine ⟨_, rfl, ?_⟩; have n0_ := Aside0.mk (Kd.V_below (by (with_reducible repeat (first | apply Kd.V_alloc | apply Kd.V_drewN | apply Kd.V_drew)); exact (Kd.V_mono (Kd.V_far (p := ⟨gb422, 1, none⟩) (Kd.V_far (p := ⟨gb422, 0, none⟩) (Kd.V_mono HO417.out (fun k_ hk => (⟨hk, hk.2⟩ : _ ∧ k_ ≠ gb422))) (fun _ hk => hk.2) (.slice Ao10 t415.length co10)) (fun _ hk => hk.2) (.slice Ao12 t418.length co12)) (fun _ h_ => h_.1))) hb); have n1_ := Aside0.mk (Kd.V_below (by (with_reducible repeat (first | apply Kd.V_alloc | apply Kd.V_drewN | apply Kd.V_drew)); exact (Kd.V_mono (Kd.V_far (p := ⟨gb422, 1, none⟩) (Kd.V_far (p := ⟨gb422, 0, none⟩) (Kd.V_mono HO420.out (fun k_ hk => (⟨hk, hk.2⟩ : _ ∧ k_ ≠ gb422))) (fun _ hk => hk.2) (.slice Ao10 t415.length co10)) (fun _ hk => hk.2) (.slice Ao12 t418.length co12)) (fun _ h_ => h_.1))) hb); have n2_ := Aside0.mk (Kd.V_lower (Kd.V_mono (ok' := fun k_ => k_ ≠ gb422) ho0 (fun k_ hk_ => (Kd.freshB (g := gb422) (o := .cells #[.slice Ao10 t415.length co10, .slice Ao12 t418.length co12] 36 (0, 0)) (by (with_reducible repeat (first | refine blk_drewN ?_ _ | refine blk_drew ?_ | refine blk_alloc ?_ _)); refine blk_put (cs := #[.slice Ao10 t415.length co10, .slice none 0 0]) ?_ 1 _ rfl; (with_reducible repeat (first | refine blk_drewN ?_ _ | refine blk_drew ?_ | refine blk_alloc ?_ _)); refine blk_put (cs := #[.slice none 0 0, .slice none 0 0]) ?_ 0 _ rfl; (with_reducible repeat (first | refine blk_drewN ?_ _ | refine blk_drew ?_ | refine blk_alloc ?_ _)); exact BK422.out) k_ hk_))) (below_size (by repeat (first | (with_reducible first | exact HB.out | apply below_alloc | apply pw_below_drewN | apply below_drew1 | refine below_set ?_ GE422.out) | exact HB.out)))); have n3_ := Aside0.mk (Kd.V_lower (Kd.V_mono (ok' := fun k_ => k_ ≠ gb422) ho1 (fun k_ hk_ => (Kd.freshB (g := gb422) (o := .cells #[.slice Ao10 t415.length co10, .slice Ao12 t418.length co12] 36 (0, 0)) (by (with_reducible repeat (first | refine blk_drewN ?_ _ | refine blk_drew ?_ | refine blk_alloc ?_ _)); refine blk_put (cs := #[.slice Ao10 t415.length co10, .slice none 0 0]) ?_ 1 _ rfl; (with_reducible repeat (first | refine blk_drewN ?_ _ | refine blk_drew ?_ | refine blk_alloc ?_ _)); refine blk_put (cs := #[.slice none 0 0, .slice none 0 0]) ?_ 0 _ rfl; (with_reducible repeat (first | refine blk_drewN ?_ _ | refine blk_drew ?_ | refine blk_alloc ?_ _)); exact BK422.out) k_ hk_))) (below_size (by repeat (first | (with_reducible first | exact HB.out | apply below_alloc | apply pw_below_drewN | apply below_drew1 | refine below_set ?_ GE422.out) | exact HB.out)))); have n4_ := Aside0.mk (blk_below (g := gb422) (o := .cells #[.slice Ao10 t415.length co10, .slice Ao12 t418.length co12] 36 (0, 0)) (by (with_reducible repeat (first | refine blk_drewN ?_ _ | refine blk_drew ?_ | refine blk_alloc ?_ _)); refine blk_put (cs := #[.slice Ao10 t415.length co10, .slice none 0 0]) ?_ 1 _ rfl; (with_reducible repeat (first | refine blk_drewN ?_ _ | refine blk_drew ?_ | refine blk_alloc ?_ _)); refine blk_put (cs := #[.slice none 0 0, .slice none 0 0]) ?_ 0 _ rfl; (with_reducible repeat (first | refine blk_drewN ?_ _ | refine blk_drew ?_ | refine blk_alloc ?_ _)); exact BK422.out) hb); have n5_ := Aside0.mk (below_step (by repeat (first | (with_reducible first | exact HB.out | apply below_alloc | apply pw_below_drewN | apply below_drew1 | refine below_set ?_ GE422.out) | exact HB.out)) hb); clear HO417; clear HO420; clear BK422; clear HB; have HO417 := n0_; have HO420 := n1_; have HO425 := n2_; have HO428 := n3_; have BK422 := n4_; have HB := n5_; clear n0_ n1_ n2_ n3_ n4_ n5_; (try clear hb); (try clear hb2); (try clear hk); (try clear hi); (try clear ho0); (try clear ho1)) | ((with_reducible refine gate_dst (N := 8) rfl ?_); refine box_event ?hg (N := 8) ?hd (cs := #[.slice none 0 0, .slice none 0 0]) (t := 36) ?hr ?_; (case hd => rfl); (case hg => rfl); (case hr => first | (go_simp; done) | (go_simp; rfl)); intro gb430 hg w14 hbox hb; have n0_ := Aside0.mk (Kd.V_below (Kd.V_elderB (by (with_reducible repeat (first | apply Kd.V_alloc | apply Kd.V_drewN | apply Kd.V_drew)); exact HO417.out) gb430 (Nat.le_of_eq hg.symm)) hb); have n1_ := Aside0.mk (Kd.V_below (Kd.V_elderB (by (with_reducible repeat (first | apply Kd.V_alloc | apply Kd.V_drewN | apply Kd.V_drew)); exact HO420.out) gb430 (Nat.le_of_eq hg.symm)) hb); have n2_ := Aside0.mk (Kd.V_below (Kd.V_elderB (by (with_reducible repeat (first | apply Kd.V_alloc | apply Kd.V_drewN | apply Kd.V_drew)); exact HO425.out) gb430 (Nat.le_of_eq hg.symm)) hb); have n3_ := Aside0.mk (Kd.V_below (Kd.V_elderB (by (with_reducible repeat (first | apply Kd.V_alloc | apply Kd.V_drewN | apply Kd.V_drew)); exact HO428.out) gb430 (Nat.le_of_eq hg.symm)) hb); have n4_ := Aside0.mk (blk_below (g := gb422) (o := .cells #[.slice Ao10 t415.length co10, .slice Ao12 t418.length co12] 36 (0, 0)) (by (with_reducible repeat (first | refine blk_drewN ?_ _ | refine blk_drew ?_ | refine blk_alloc ?_ _)); exact BK422.out) hb); have n5_ := Aside0.mk (below_step (by repeat (first | (with_reducible first | exact HB.out | apply below_alloc | apply pw_below_drewN | apply below_drew1 | refine below_set ?_ GE422.out) | exact HB.out)) hb); have n6_ := Aside0.mk (hbox); have n7_ := Aside0.mk ((by rw [hg]; exact (below_size (by repeat (first | (with_reducible first | exact HB.out | apply below_alloc | apply pw_below_drewN | apply below_drew1 | refine below_set ?_ GE422.out) | exact HB.out))) : w.heap.size ≤ gb430)); have n8_ := Aside0.mk ((by rw [hg]; exact (below_size (by repeat (first | (with_reducible first | exact HB.out | apply below_alloc | apply pw_below_drewN | apply below_drew1 | refine below_set ?_ GE422.out) | exact HB.out))) : w.heap.size ≤ gb430)); have n9_ := Aside0.mk ((by rw [hg]; exact Nat.ne_of_lt (blk_lt (g := gb422) (o := .cells #[.slice Ao10 t415.length co10, .slice Ao12 t418.length co12] 36 (0, 0)) (by (with_reducible repeat (first | refine blk_drewN ?_ _ | refine blk_drew ?_ | refine blk_alloc ?_ _)); exact BK422.out)) : gb422 ≠ gb430)); have n10_ := Aside0.mk ((by rw [hg]; exact Nat.ne_of_gt (blk_lt (g := gb422) (o := .cells #[.slice Ao10 t415.length co10, .slice Ao12 t418.length co12] 36 (0, 0)) (by (with_reducible repeat (first | refine blk_drewN ?_ _ | refine blk_drew ?_ | refine blk_alloc ?_ _)); exact BK422.out)) : gb430 ≠ gb422)); clear HO417; clear HO420; clear HO425; clear HO428; clear BK422; clear HB; have HO417 := n0_; have HO420 := n1_; have HO425 := n2_; have HO428 := n3_; have BK422 := n4_; have HB := n5_; have BK430 := n6_; have GW430 := n7_; have GE430 := n8_; have NB422_430 := n9_; have NB430_422 := n10_; clear n0_ n1_ n2_ n3_ n4_ n5_ n6_ n7_ n8_ n9_ n10_; clear hb hbox hg; obtain ⟨Ao15, co15, eo15⟩ := Kd.V_slice HO425.out; subst eo15; have hnb16 := NB430_422.out; have hnc16 := NB422_430.out; have hcz17_0 : w14.cell? ⟨gb430, 0, none⟩ = some (.slice none 0 0) := (blk_cell BK430.out 0).trans rfl; have hcz17_1 : w14.cell? ⟨gb430, 1, none⟩ = some (.slice none 0 0) := (blk_cell BK430.out 1).trans rfl; have hfz17_0 := blk_frozen BK430.out 0; have hfz17_1 := blk_frozen BK430.out 1; obtain ⟨Ao18, co18, eo18⟩ := Kd.V_slice HO428.out; subst eo18; have hcz19_0 : w14.cell? ⟨gb422, 0, none⟩ = some (.slice Ao10 t415.length co10) := (blk_cell BK422.out 0).trans rfl; have hcz19_1 : w14.cell? ⟨gb422, 1, none⟩ = some (.slice Ao12 t418.length co12) := (blk_cell BK422.out 1).trans rfl; have hfz19_0 := blk_frozen BK422.out 0; have hfz19_1 := blk_frozen BK422.out 1) | ((with_reducible refine gate_callee (f := 30) rfl ?_); refine goesL_ (some 28) rfl rfl Try.func30 (by kernel_rfl) rfl #[.agg #[.slice Ao10 t415.length co10, .slice Ao12 t418.length co12], .agg #[.slice Ao15 t423.length co15, .slice Ao18 t426.length co18], .bool false] rfl (by (try simp only [List.map_toArray, List.map_cons, List.map_nil]); first | done | rfl | (simp only [List.length_drop, List.length_take]; rfl)) ?_; (with_reducible refine (spec_l4Sum.calls k _ _ t415 _ _ t418 _ _ t423 _ _ t426 false t431 t432 _ ?side1 ?side2 ?side3 ?side4 ?side5 ?side6 ?side7 ?side8 A7.out).mono ?_); (case side1 => refine (Kd.V_reads' (e := 4) (base := w.heap.size) (ok := fun k_ => ((True ∧ k_ ≠ gb422) ∧ k_ ≠ gb430)) (n := t415.length) (c := co10) ?_).2.2; exact (by (with_reducible repeat (first | apply Kd.V_alloc | apply Kd.V_drewN | apply Kd.V_drew)); exact (Kd.V_mono (Kd.V_far (p := ⟨gb430, 1, none⟩) (Kd.V_far (p := ⟨gb430, 0, none⟩) (Kd.V_mono HO417.out (fun k_ hk => (⟨hk, hk.2⟩ : _ ∧ k_ ≠ gb430))) (fun _ hk => hk.2) (.slice Ao15 t423.length co15)) (fun _ hk => hk.2) (.slice Ao18 t426.length co18)) (fun _ h_ => h_.1)))); (case side2 => exact (Kd.V_reads' HO417.out).2.1); (case side3 => refine (Kd.V_reads' (e := 4) (base := w.heap.size) (ok := fun k_ => ((True ∧ k_ ≠ gb422) ∧ k_ ≠ gb430)) (n := t418.length) (c := co12) ?_).2.2; exact (by (with_reducible repeat (first | apply Kd.V_alloc | apply Kd.V_drewN | apply Kd.V_drew)); exact (Kd.V_mono (Kd.V_far (p := ⟨gb430, 1, none⟩) (Kd.V_far (p := ⟨gb430, 0, none⟩) (Kd.V_mono HO420.out (fun k_ hk => (⟨hk, hk.2⟩ : _ ∧ k_ ≠ gb430))) (fun _ hk => hk.2) (.slice Ao15 t423.length co15)) (fun _ hk => hk.2) (.slice Ao18 t426.length co18)) (fun _ h_ => h_.1)))); (case side4 => exact (Kd.V_reads' HO420.out).2.1); (case side5 => refine (Kd.V_reads' (e := 4) (base := w.heap.size) (ok := fun k_ => (k_ ≠ gb422 ∧ k_ ≠ gb430)) (n := t423.length) (c := co15) ?_).2.2; exact (by (with_reducible repeat (first | apply Kd.V_alloc | apply Kd.V_drewN | apply Kd.V_drew)); exact (Kd.V_mono (Kd.V_far (p := ⟨gb430, 1, none⟩) (Kd.V_far (p := ⟨gb430, 0, none⟩) (Kd.V_mono HO425.out (fun k_ hk => (⟨hk, hk.2⟩ : _ ∧ k_ ≠ gb430))) (fun _ hk => hk.2) (.slice Ao15 t423.length co15)) (fun _ hk => hk.2) (.slice Ao18 t426.length co18)) (fun _ h_ => h_.1)))); (case side6 => exact (Kd.V_reads' HO425.out).2.1); (case side7 => refine (Kd.V_reads' (e := 4) (base := w.heap.size) (ok := fun k_ => (k_ ≠ gb422 ∧ k_ ≠ gb430)) (n := t426.length) (c := co18) ?_).2.2; exact (by (with_reducible repeat (first | apply Kd.V_alloc | apply Kd.V_drewN | apply Kd.V_drew)); exact (Kd.V_mono (Kd.V_far (p := ⟨gb430, 1, none⟩) (Kd.V_far (p := ⟨gb430, 0, none⟩) (Kd.V_mono HO428.out (fun k_ hk => (⟨hk, hk.2⟩ : _ ∧ k_ ≠ gb430))) (fun _ hk => hk.2) (.slice Ao15 t423.length co15)) (fun _ hk => hk.2) (.slice Ao18 t426.length co18)) (fun _ h_ => h_.1)))); (case side8 => exact (Kd.V_reads' HO428.out).2.1); rintro e w20 ⟨rfl, hb⟩; refine ⟨_, rfl, ?_⟩; have n0_ := Aside0.mk (Kd.V_below (by (with_reducible repeat (first | apply Kd.V_alloc | apply Kd.V_drewN | apply Kd.V_drew)); exact (Kd.V_mono (Kd.V_far (p := ⟨gb430, 1, none⟩) (Kd.V_far (p := ⟨gb430, 0, none⟩) (Kd.V_mono HO417.out (fun k_ hk => (⟨hk, hk.2⟩ : _ ∧ k_ ≠ gb430))) (fun _ hk => hk.2) (.slice Ao15 t423.length co15)) (fun _ hk => hk.2) (.slice Ao18 t426.length co18)) (fun _ h_ => h_.1))) hb); have n1_ := Aside0.mk (Kd.V_below (by (with_reducible repeat (first | apply Kd.V_alloc | apply Kd.V_drewN | apply Kd.V_drew)); exact (Kd.V_mono (Kd.V_far (p := ⟨gb430, 1, none⟩) (Kd.V_far (p := ⟨gb430, 0, none⟩) (Kd.V_mono HO420.out (fun k_ hk => (⟨hk, hk.2⟩ : _ ∧ k_ ≠ gb430))) (fun _ hk => hk.2) (.slice Ao15 t423.length co15)) (fun _ hk => hk.2) (.slice Ao18 t426.length co18)) (fun _ h_ => h_.1))) hb); have n2_ := Aside0.mk (Kd.V_below (by (with_reducible repeat (first | apply Kd.V_alloc | apply Kd.V_drewN | apply Kd.V_drew)); exact (Kd.V_mono (Kd.V_far (p := ⟨gb430, 1, none⟩) (Kd.V_far (p := ⟨gb430, 0, none⟩) (Kd.V_mono HO425.out (fun k_ hk => (⟨hk, hk.2⟩ : _ ∧ k_ ≠ gb430))) (fun _ hk => hk.2) (.slice Ao15 t423.length co15)) (fun _ hk => hk.2) (.slice Ao18 t426.length co18)) (fun _ h_ => h_.1))) hb); have n3_ := Aside0.mk (Kd.V_below (by (with_reducible repeat (first | apply Kd.V_alloc | apply Kd.V_drewN | apply Kd.V_drew)); exact (Kd.V_mono (Kd.V_far (p := ⟨gb430, 1, none⟩) (Kd.V_far (p := ⟨gb430, 0, none⟩) (Kd.V_mono HO428.out (fun k_ hk => (⟨hk, hk.2⟩ : _ ∧ k_ ≠ gb430))) (fun _ hk => hk.2) (.slice Ao15 t423.length co15)) (fun _ hk => hk.2) (.slice Ao18 t426.length co18)) (fun _ h_ => h_.1))) hb); have n4_ := Aside0.mk (blk_below (g := gb422) (o := .cells #[.slice Ao10 t415.length co10, .slice Ao12 t418.length co12] 36 (0, 0)) (by (with_reducible repeat (first | refine blk_drewN ?_ _ | refine blk_drew ?_ | refine blk_alloc ?_ _)); refine blk_far ?_ NB422_430.out _; (with_reducible repeat (first | refine blk_drewN ?_ _ | refine blk_drew ?_ | refine blk_alloc ?_ _)); refine blk_far ?_ NB422_430.out _; (with_reducible repeat (first | refine blk_drewN ?_ _ | refine blk_drew ?_ | refine blk_alloc ?_ _)); exact BK422.out) hb); have n5_ := Aside0.mk (blk_below (g := gb430) (o := .cells #[.slice Ao15 t423.length co15, .slice Ao18 t426.length co18] 36 (0, 0)) (by (with_reducible repeat (first | refine blk_drewN ?_ _ | refine blk_drew ?_ | refine blk_alloc ?_ _)); refine blk_put (cs := #[.slice Ao15 t423.length co15, .slice none 0 0]) ?_ 1 _ rfl; (with_reducible repeat (first | refine blk_drewN ?_ _ | refine blk_drew ?_ | refine blk_alloc ?_ _)); refine blk_put (cs := #[.slice none 0 0, .slice none 0 0]) ?_ 0 _ rfl; (with_reducible repeat (first | refine blk_drewN ?_ _ | refine blk_drew ?_ | refine blk_alloc ?_ _)); exact BK430.out) hb); have n6_ := Aside0.mk (below_step (by repeat (first | (with_reducible first | exact HB.out | apply below_alloc | apply pw_below_drewN | apply below_drew1 | refine below_set ?_ GE422.out | refine below_set ?_ GE430.out) | exact HB.out)) hb); clear HO417; clear HO420; clear HO425; clear HO428; clear BK422; clear BK430; clear HB; have HO417 := n0_; have HO420 := n1_; have HO425 := n2_; have HO428 := n3_; have BK422 := n4_; have BK430 := n5_; have HB := n6_; clear n0_ n1_ n2_ n3_ n4_ n5_ n6_; (try clear hb); (try clear hb2); (try clear hk); (try clear hi)))
      go_ret2
      exact ⟨by first | rfl | (simp [errW_none, errW_some] <;> rfl) | (simp [*, errW_none, errW_some] <;> rfl) | (simp [errW_none, errW_some]; exact ⟨rfl, rfl⟩), by repeat (first | (with_reducible first | exact HB.out | apply below_alloc | apply pw_below_drewN | apply below_drew1 | refine below_set ?_ GE422.out | refine below_set ?_ GE430.out) | exact HB.out)⟩
    · replace c6 := Bool.eq_false_iff.mpr c6
      subst c6
      have H1 : (some ((⟨#[]⟩ : ByteArray), false)) = some (r1, r2) := by rw [if_neg (show ¬ (false = true) by decide)] at H; exact H
      clear H
      have H := H1
      clear H1
      simp only [Option.some.injEq, Prod.mk.injEq] at H
      obtain ⟨rfl, rfl⟩ := H
      go_enter Try.func14, Try.ntmps14
      go_wp2_with (first | ((with_reducible refine gate_callee (f := 24) rfl ?_); refine goesL_ (some 12) rfl rfl Try.func24 (by kernel_rfl) rfl #[.string a0] rfl (by (try simp only [List.map_toArray, List.map_cons, List.map_nil]); first | done | rfl | (simp only [List.length_drop, List.length_take]; rfl)) ?_; (with_reducible refine (spec_l4Small.calls k a0 t415 t418 true _ A3.out).mono ?_); rintro e w21 ⟨v416, v419, rfl, ho0, ho1, hb⟩; refine ⟨_, rfl, ?_⟩; have n0_ := Aside0.mk (Kd.V_lower (Kd.V_mono (ok' := fun k_ => True) ho0 (fun k_ hk_ => trivial)) (below_size (by repeat (first | (with_reducible first | exact HB.out | apply below_alloc | apply pw_below_drewN | apply below_drew1) | exact HB.out)))); have n1_ := Aside0.mk (Kd.V_lower (Kd.V_mono (ok' := fun k_ => True) ho1 (fun k_ hk_ => trivial)) (below_size (by repeat (first | (with_reducible first | exact HB.out | apply below_alloc | apply pw_below_drewN | apply below_drew1) | exact HB.out)))); have n2_ := Aside0.mk (below_step (by repeat (first | (with_reducible first | exact HB.out | apply below_alloc | apply pw_below_drewN | apply below_drew1) | exact HB.out)) hb); clear HB; have HO417 := n0_; have HO420 := n1_; have HB := n2_; clear n0_ n1_ n2_; (try clear hb); (try clear hb2); (try clear hk); (try clear hi); (try clear ho0); (try clear ho1)) | ((with_reducible refine gate_dst (N := 6) rfl ?_); refine box_event ?hg (N := 6) ?hd (cs := #[.slice none 0 0, .slice none 0 0]) (t := 36) ?hr ?_; (case hd => rfl); (case hg => rfl); (case hr => first | (go_simp; done) | (go_simp; rfl)); intro gb422 hg w22 hbox hb; have n0_ := Aside0.mk (Kd.V_below (Kd.V_elderB (by (with_reducible repeat (first | apply Kd.V_alloc | apply Kd.V_drewN | apply Kd.V_drew)); exact HO417.out) gb422 (Nat.le_of_eq hg.symm)) hb); have n1_ := Aside0.mk (Kd.V_below (Kd.V_elderB (by (with_reducible repeat (first | apply Kd.V_alloc | apply Kd.V_drewN | apply Kd.V_drew)); exact HO420.out) gb422 (Nat.le_of_eq hg.symm)) hb); have n2_ := Aside0.mk (below_step (by repeat (first | (with_reducible first | exact HB.out | apply below_alloc | apply pw_below_drewN | apply below_drew1) | exact HB.out)) hb); have n3_ := Aside0.mk (hbox); have n4_ := Aside0.mk ((by rw [hg]; exact (below_size (by repeat (first | (with_reducible first | exact HB.out | apply below_alloc | apply pw_below_drewN | apply below_drew1) | exact HB.out))) : w.heap.size ≤ gb422)); have n5_ := Aside0.mk ((by rw [hg]; exact (below_size (by repeat (first | (with_reducible first | exact HB.out | apply below_alloc | apply pw_below_drewN | apply below_drew1) | exact HB.out))) : w.heap.size ≤ gb422)); clear HO417; clear HO420; clear HB; have HO417 := n0_; have HO420 := n1_; have HB := n2_; have BK422 := n3_; have GW422 := n4_; have GE422 := n5_; clear n0_ n1_ n2_ n3_ n4_ n5_; clear hb hbox hg; obtain ⟨Ao23, co23, eo23⟩ := Kd.V_slice HO417.out; subst eo23; have hcz24_0 : w22.cell? ⟨gb422, 0, none⟩ = some (.slice none 0 0) := (blk_cell BK422.out 0).trans rfl; have hcz24_1 : w22.cell? ⟨gb422, 1, none⟩ = some (.slice none 0 0) := (blk_cell BK422.out 1).trans rfl; have hfz24_0 := blk_frozen BK422.out 0; have hfz24_1 := blk_frozen BK422.out 1; obtain ⟨Ao25, co25, eo25⟩ := Kd.V_slice HO420.out; subst eo25) | ((with_reducible refine gate_callee (f := 24) rfl ?_); refine goesL_ (some 17) rfl rfl Try.func24 (by kernel_rfl) rfl #[.string a1] rfl (by (try simp only [List.map_toArray, List.map_cons, List.map_nil]); first | done | rfl | (simp only [List.length_drop, List.length_take]; rfl)) ?_; (with_reducible refine (spec_l4Small.calls k a1 t423 t426 false _ A4.out).mono ?_); rintro e w26 ⟨v424, v427, rfl, ho0, ho1, hb⟩; refine ⟨_, rfl, ?_⟩; have n0_ := Aside0.mk (Kd.V_below (by (with_reducible repeat (first | apply Kd.V_alloc | apply Kd.V_drewN | apply Kd.V_drew)); exact (Kd.V_mono (Kd.V_far (p := ⟨gb422, 1, none⟩) (Kd.V_far (p := ⟨gb422, 0, none⟩) (Kd.V_mono HO417.out (fun k_ hk => (⟨hk, hk.2⟩ : _ ∧ k_ ≠ gb422))) (fun _ hk => hk.2) (.slice Ao23 t415.length co23)) (fun _ hk => hk.2) (.slice Ao25 t418.length co25)) (fun _ h_ => h_.1))) hb); have n1_ := Aside0.mk (Kd.V_below (by (with_reducible repeat (first | apply Kd.V_alloc | apply Kd.V_drewN | apply Kd.V_drew)); exact (Kd.V_mono (Kd.V_far (p := ⟨gb422, 1, none⟩) (Kd.V_far (p := ⟨gb422, 0, none⟩) (Kd.V_mono HO420.out (fun k_ hk => (⟨hk, hk.2⟩ : _ ∧ k_ ≠ gb422))) (fun _ hk => hk.2) (.slice Ao23 t415.length co23)) (fun _ hk => hk.2) (.slice Ao25 t418.length co25)) (fun _ h_ => h_.1))) hb); have n2_ := Aside0.mk (Kd.V_lower (Kd.V_mono (ok' := fun k_ => k_ ≠ gb422) ho0 (fun k_ hk_ => (Kd.freshB (g := gb422) (o := .cells #[.slice Ao23 t415.length co23, .slice Ao25 t418.length co25] 36 (0, 0)) (by (with_reducible repeat (first | refine blk_drewN ?_ _ | refine blk_drew ?_ | refine blk_alloc ?_ _)); refine blk_put (cs := #[.slice Ao23 t415.length co23, .slice none 0 0]) ?_ 1 _ rfl; (with_reducible repeat (first | refine blk_drewN ?_ _ | refine blk_drew ?_ | refine blk_alloc ?_ _)); refine blk_put (cs := #[.slice none 0 0, .slice none 0 0]) ?_ 0 _ rfl; (with_reducible repeat (first | refine blk_drewN ?_ _ | refine blk_drew ?_ | refine blk_alloc ?_ _)); exact BK422.out) k_ hk_))) (below_size (by repeat (first | (with_reducible first | exact HB.out | apply below_alloc | apply pw_below_drewN | apply below_drew1 | refine below_set ?_ GE422.out) | exact HB.out)))); have n3_ := Aside0.mk (Kd.V_lower (Kd.V_mono (ok' := fun k_ => k_ ≠ gb422) ho1 (fun k_ hk_ => (Kd.freshB (g := gb422) (o := .cells #[.slice Ao23 t415.length co23, .slice Ao25 t418.length co25] 36 (0, 0)) (by (with_reducible repeat (first | refine blk_drewN ?_ _ | refine blk_drew ?_ | refine blk_alloc ?_ _)); refine blk_put (cs := #[.slice Ao23 t415.length co23, .slice none 0 0]) ?_ 1 _ rfl; (with_reducible repeat (first | refine blk_drewN ?_ _ | refine blk_drew ?_ | refine blk_alloc ?_ _)); refine blk_put (cs := #[.slice none 0 0, .slice none 0 0]) ?_ 0 _ rfl; (with_reducible repeat (first | refine blk_drewN ?_ _ | refine blk_drew ?_ | refine blk_alloc ?_ _)); exact BK422.out) k_ hk_))) (below_size (by repeat (first | (with_reducible first | exact HB.out | apply below_alloc | apply pw_below_drewN | apply below_drew1 | refine below_set ?_ GE422.out) | exact HB.out)))); have n4_ := Aside0.mk (blk_below (g := gb422) (o := .cells #[.slice Ao23 t415.length co23, .slice Ao25 t418.length co25] 36 (0, 0)) (by (with_reducible repeat (first | refine blk_drewN ?_ _ | refine blk_drew ?_ | refine blk_alloc ?_ _)); refine blk_put (cs := #[.slice Ao23 t415.length co23, .slice none 0 0]) ?_ 1 _ rfl; (with_reducible repeat (first | refine blk_drewN ?_ _ | refine blk_drew ?_ | refine blk_alloc ?_ _)); refine blk_put (cs := #[.slice none 0 0, .slice none 0 0]) ?_ 0 _ rfl; (with_reducible repeat (first | refine blk_drewN ?_ _ | refine blk_drew ?_ | refine blk_alloc ?_ _)); exact BK422.out) hb); have n5_ := Aside0.mk (below_step (by repeat (first | (with_reducible first | exact HB.out | apply below_alloc | apply pw_below_drewN | apply below_drew1 | refine below_set ?_ GE422.out) | exact HB.out)) hb); clear HO417; clear HO420; clear BK422; clear HB; have HO417 := n0_; have HO420 := n1_; have HO425 := n2_; have HO428 := n3_; have BK422 := n4_; have HB := n5_; clear n0_ n1_ n2_ n3_ n4_ n5_; (try clear hb); (try clear hb2); (try clear hk); (try clear hi); (try clear ho0); (try clear ho1)) | ((with_reducible refine gate_dst (N := 8) rfl ?_); refine box_event ?hg (N := 8) ?hd (cs := #[.slice none 0 0, .slice none 0 0]) (t := 36) ?hr ?_; (case hd => rfl); (case hg => rfl); (case hr => first | (go_simp; done) | (go_simp; rfl)); intro gb430 hg w27 hbox hb; have n0_ := Aside0.mk (Kd.V_below (Kd.V_elderB (by (with_reducible repeat (first | apply Kd.V_alloc | apply Kd.V_drewN | apply Kd.V_drew)); exact HO417.out) gb430 (Nat.le_of_eq hg.symm)) hb); have n1_ := Aside0.mk (Kd.V_below (Kd.V_elderB (by (with_reducible repeat (first | apply Kd.V_alloc | apply Kd.V_drewN | apply Kd.V_drew)); exact HO420.out) gb430 (Nat.le_of_eq hg.symm)) hb); have n2_ := Aside0.mk (Kd.V_below (Kd.V_elderB (by (with_reducible repeat (first | apply Kd.V_alloc | apply Kd.V_drewN | apply Kd.V_drew)); exact HO425.out) gb430 (Nat.le_of_eq hg.symm)) hb); have n3_ := Aside0.mk (Kd.V_below (Kd.V_elderB (by (with_reducible repeat (first | apply Kd.V_alloc | apply Kd.V_drewN | apply Kd.V_drew)); exact HO428.out) gb430 (Nat.le_of_eq hg.symm)) hb); have n4_ := Aside0.mk (blk_below (g := gb422) (o := .cells #[.slice Ao23 t415.length co23, .slice Ao25 t418.length co25] 36 (0, 0)) (by (with_reducible repeat (first | refine blk_drewN ?_ _ | refine blk_drew ?_ | refine blk_alloc ?_ _)); exact BK422.out) hb); have n5_ := Aside0.mk (below_step (by repeat (first | (with_reducible first | exact HB.out | apply below_alloc | apply pw_below_drewN | apply below_drew1 | refine below_set ?_ GE422.out) | exact HB.out)) hb); have n6_ := Aside0.mk (hbox); have n7_ := Aside0.mk ((by rw [hg]; exact (below_size (by repeat (first | (with_reducible first | exact HB.out | apply below_alloc | apply pw_below_drewN | apply below_drew1 | refine below_set ?_ GE422.out) | exact HB.out))) : w.heap.size ≤ gb430)); have n8_ := Aside0.mk ((by rw [hg]; exact (below_size (by repeat (first | (with_reducible first | exact HB.out | apply below_alloc | apply pw_below_drewN | apply below_drew1 | refine below_set ?_ GE422.out) | exact HB.out))) : w.heap.size ≤ gb430)); have n9_ := Aside0.mk ((by rw [hg]; exact Nat.ne_of_lt (blk_lt (g := gb422) (o := .cells #[.slice Ao23 t415.length co23, .slice Ao25 t418.length co25] 36 (0, 0)) (by (with_reducible repeat (first | refine blk_drewN ?_ _ | refine blk_drew ?_ | refine blk_alloc ?_ _)); exact BK422.out)) : gb422 ≠ gb430)); have n10_ := Aside0.mk ((by rw [hg]; exact Nat.ne_of_gt (blk_lt (g := gb422) (o := .cells #[.slice Ao23 t415.length co23, .slice Ao25 t418.length co25] 36 (0, 0)) (by (with_reducible repeat (first | refine blk_drewN ?_ _ | refine blk_drew ?_ | refine blk_alloc ?_ _)); exact BK422.out)) : gb430 ≠ gb422)); clear HO417; clear HO420; clear HO425; clear HO428; clear BK422; clear HB; have HO417 := n0_; have HO420 := n1_; have HO425 := n2_; have HO428 := n3_; have BK422 := n4_; have HB := n5_; have BK430 := n6_; have GW430 := n7_; have GE430 := n8_; have NB422_430 := n9_; have NB430_422 := n10_; clear n0_ n1_ n2_ n3_ n4_ n5_ n6_ n7_ n8_ n9_ n10_; clear hb hbox hg; obtain ⟨Ao28, co28, eo28⟩ := Kd.V_slice HO425.out; subst eo28; have hnb29 := NB430_422.out; have hnc29 := NB422_430.out; have hcz30_0 : w27.cell? ⟨gb430, 0, none⟩ = some (.slice none 0 0) := (blk_cell BK430.out 0).trans rfl; have hcz30_1 : w27.cell? ⟨gb430, 1, none⟩ = some (.slice none 0 0) := (blk_cell BK430.out 1).trans rfl; have hfz30_0 := blk_frozen BK430.out 0; have hfz30_1 := blk_frozen BK430.out 1; obtain ⟨Ao31, co31, eo31⟩ := Kd.V_slice HO428.out; subst eo31))
      go_ret2
      exact ⟨by first | rfl | (simp [errW_none, errW_some] <;> rfl) | (simp [*, errW_none, errW_some] <;> rfl) | (simp [errW_none, errW_some]; exact ⟨rfl, rfl⟩), by repeat (first | (with_reducible first | exact HB.out | apply below_alloc | apply pw_below_drewN | apply below_drew1 | refine below_set ?_ GE422.out | refine below_set ?_ GE430.out) | exact HB.out)⟩
  · replace c5 := Bool.eq_false_iff.mpr c5
    subst c5
    have H1 : (some ((⟨#[]⟩ : ByteArray), false)) = some (r1, r2) := by rw [if_neg (show ¬ (false = true) by decide)] at H; exact H
    clear H
    have H := H1
    clear H1
    simp only [Option.some.injEq, Prod.mk.injEq] at H
    obtain ⟨rfl, rfl⟩ := H
    go_enter Try.func14, Try.ntmps14
    go_wp2_with (first | ((with_reducible refine gate_callee (f := 24) rfl ?_); refine goesL_ (some 12) rfl rfl Try.func24 (by kernel_rfl) rfl #[.string a0] rfl (by (try simp only [List.map_toArray, List.map_cons, List.map_nil]); first | done | rfl | (simp only [List.length_drop, List.length_take]; rfl)) ?_; (with_reducible refine (spec_l4Small.calls k a0 t415 t418 false _ A3.out).mono ?_); rintro e w32 ⟨v416, v419, rfl, ho0, ho1, hb⟩; refine ⟨_, rfl, ?_⟩; have n0_ := Aside0.mk (Kd.V_lower (Kd.V_mono (ok' := fun k_ => True) ho0 (fun k_ hk_ => trivial)) (below_size (by repeat (first | (with_reducible first | exact HB.out | apply below_alloc | apply pw_below_drewN | apply below_drew1) | exact HB.out)))); have n1_ := Aside0.mk (Kd.V_lower (Kd.V_mono (ok' := fun k_ => True) ho1 (fun k_ hk_ => trivial)) (below_size (by repeat (first | (with_reducible first | exact HB.out | apply below_alloc | apply pw_below_drewN | apply below_drew1) | exact HB.out)))); have n2_ := Aside0.mk (below_step (by repeat (first | (with_reducible first | exact HB.out | apply below_alloc | apply pw_below_drewN | apply below_drew1) | exact HB.out)) hb); clear HB; have HO417 := n0_; have HO420 := n1_; have HB := n2_; clear n0_ n1_ n2_; (try clear hb); (try clear hb2); (try clear hk); (try clear hi); (try clear ho0); (try clear ho1)) | ((with_reducible refine gate_dst (N := 6) rfl ?_); refine box_event ?hg (N := 6) ?hd (cs := #[.slice none 0 0, .slice none 0 0]) (t := 36) ?hr ?_; (case hd => rfl); (case hg => rfl); (case hr => first | (go_simp; done) | (go_simp; rfl)); intro gb422 hg w33 hbox hb; have n0_ := Aside0.mk (Kd.V_below (Kd.V_elderB (by (with_reducible repeat (first | apply Kd.V_alloc | apply Kd.V_drewN | apply Kd.V_drew)); exact HO417.out) gb422 (Nat.le_of_eq hg.symm)) hb); have n1_ := Aside0.mk (Kd.V_below (Kd.V_elderB (by (with_reducible repeat (first | apply Kd.V_alloc | apply Kd.V_drewN | apply Kd.V_drew)); exact HO420.out) gb422 (Nat.le_of_eq hg.symm)) hb); have n2_ := Aside0.mk (below_step (by repeat (first | (with_reducible first | exact HB.out | apply below_alloc | apply pw_below_drewN | apply below_drew1) | exact HB.out)) hb); have n3_ := Aside0.mk (hbox); have n4_ := Aside0.mk ((by rw [hg]; exact (below_size (by repeat (first | (with_reducible first | exact HB.out | apply below_alloc | apply pw_below_drewN | apply below_drew1) | exact HB.out))) : w.heap.size ≤ gb422)); have n5_ := Aside0.mk ((by rw [hg]; exact (below_size (by repeat (first | (with_reducible first | exact HB.out | apply below_alloc | apply pw_below_drewN | apply below_drew1) | exact HB.out))) : w.heap.size ≤ gb422)); clear HO417; clear HO420; clear HB; have HO417 := n0_; have HO420 := n1_; have HB := n2_; have BK422 := n3_; have GW422 := n4_; have GE422 := n5_; clear n0_ n1_ n2_ n3_ n4_ n5_; clear hb hbox hg; obtain ⟨Ao34, co34, eo34⟩ := Kd.V_slice HO417.out; subst eo34; have hcz35_0 : w33.cell? ⟨gb422, 0, none⟩ = some (.slice none 0 0) := (blk_cell BK422.out 0).trans rfl; have hcz35_1 : w33.cell? ⟨gb422, 1, none⟩ = some (.slice none 0 0) := (blk_cell BK422.out 1).trans rfl; have hfz35_0 := blk_frozen BK422.out 0; have hfz35_1 := blk_frozen BK422.out 1; obtain ⟨Ao36, co36, eo36⟩ := Kd.V_slice HO420.out; subst eo36) | ((with_reducible refine gate_callee (f := 24) rfl ?_); refine goesL_ (some 17) rfl rfl Try.func24 (by kernel_rfl) rfl #[.string a1] rfl (by (try simp only [List.map_toArray, List.map_cons, List.map_nil]); first | done | rfl | (simp only [List.length_drop, List.length_take]; rfl)) ?_; (with_reducible refine (spec_l4Small.calls k a1 t423 t426 t429 _ A4.out).mono ?_); rintro e w37 ⟨v424, v427, rfl, ho0, ho1, hb⟩; refine ⟨_, rfl, ?_⟩; have n0_ := Aside0.mk (Kd.V_below (by (with_reducible repeat (first | apply Kd.V_alloc | apply Kd.V_drewN | apply Kd.V_drew)); exact (Kd.V_mono (Kd.V_far (p := ⟨gb422, 1, none⟩) (Kd.V_far (p := ⟨gb422, 0, none⟩) (Kd.V_mono HO417.out (fun k_ hk => (⟨hk, hk.2⟩ : _ ∧ k_ ≠ gb422))) (fun _ hk => hk.2) (.slice Ao34 t415.length co34)) (fun _ hk => hk.2) (.slice Ao36 t418.length co36)) (fun _ h_ => h_.1))) hb); have n1_ := Aside0.mk (Kd.V_below (by (with_reducible repeat (first | apply Kd.V_alloc | apply Kd.V_drewN | apply Kd.V_drew)); exact (Kd.V_mono (Kd.V_far (p := ⟨gb422, 1, none⟩) (Kd.V_far (p := ⟨gb422, 0, none⟩) (Kd.V_mono HO420.out (fun k_ hk => (⟨hk, hk.2⟩ : _ ∧ k_ ≠ gb422))) (fun _ hk => hk.2) (.slice Ao34 t415.length co34)) (fun _ hk => hk.2) (.slice Ao36 t418.length co36)) (fun _ h_ => h_.1))) hb); have n2_ := Aside0.mk (Kd.V_lower (Kd.V_mono (ok' := fun k_ => k_ ≠ gb422) ho0 (fun k_ hk_ => (Kd.freshB (g := gb422) (o := .cells #[.slice Ao34 t415.length co34, .slice Ao36 t418.length co36] 36 (0, 0)) (by (with_reducible repeat (first | refine blk_drewN ?_ _ | refine blk_drew ?_ | refine blk_alloc ?_ _)); refine blk_put (cs := #[.slice Ao34 t415.length co34, .slice none 0 0]) ?_ 1 _ rfl; (with_reducible repeat (first | refine blk_drewN ?_ _ | refine blk_drew ?_ | refine blk_alloc ?_ _)); refine blk_put (cs := #[.slice none 0 0, .slice none 0 0]) ?_ 0 _ rfl; (with_reducible repeat (first | refine blk_drewN ?_ _ | refine blk_drew ?_ | refine blk_alloc ?_ _)); exact BK422.out) k_ hk_))) (below_size (by repeat (first | (with_reducible first | exact HB.out | apply below_alloc | apply pw_below_drewN | apply below_drew1 | refine below_set ?_ GE422.out) | exact HB.out)))); have n3_ := Aside0.mk (Kd.V_lower (Kd.V_mono (ok' := fun k_ => k_ ≠ gb422) ho1 (fun k_ hk_ => (Kd.freshB (g := gb422) (o := .cells #[.slice Ao34 t415.length co34, .slice Ao36 t418.length co36] 36 (0, 0)) (by (with_reducible repeat (first | refine blk_drewN ?_ _ | refine blk_drew ?_ | refine blk_alloc ?_ _)); refine blk_put (cs := #[.slice Ao34 t415.length co34, .slice none 0 0]) ?_ 1 _ rfl; (with_reducible repeat (first | refine blk_drewN ?_ _ | refine blk_drew ?_ | refine blk_alloc ?_ _)); refine blk_put (cs := #[.slice none 0 0, .slice none 0 0]) ?_ 0 _ rfl; (with_reducible repeat (first | refine blk_drewN ?_ _ | refine blk_drew ?_ | refine blk_alloc ?_ _)); exact BK422.out) k_ hk_))) (below_size (by repeat (first | (with_reducible first | exact HB.out | apply below_alloc | apply pw_below_drewN | apply below_drew1 | refine below_set ?_ GE422.out) | exact HB.out)))); have n4_ := Aside0.mk (blk_below (g := gb422) (o := .cells #[.slice Ao34 t415.length co34, .slice Ao36 t418.length co36] 36 (0, 0)) (by (with_reducible repeat (first | refine blk_drewN ?_ _ | refine blk_drew ?_ | refine blk_alloc ?_ _)); refine blk_put (cs := #[.slice Ao34 t415.length co34, .slice none 0 0]) ?_ 1 _ rfl; (with_reducible repeat (first | refine blk_drewN ?_ _ | refine blk_drew ?_ | refine blk_alloc ?_ _)); refine blk_put (cs := #[.slice none 0 0, .slice none 0 0]) ?_ 0 _ rfl; (with_reducible repeat (first | refine blk_drewN ?_ _ | refine blk_drew ?_ | refine blk_alloc ?_ _)); exact BK422.out) hb); have n5_ := Aside0.mk (below_step (by repeat (first | (with_reducible first | exact HB.out | apply below_alloc | apply pw_below_drewN | apply below_drew1 | refine below_set ?_ GE422.out) | exact HB.out)) hb); clear HO417; clear HO420; clear BK422; clear HB; have HO417 := n0_; have HO420 := n1_; have HO425 := n2_; have HO428 := n3_; have BK422 := n4_; have HB := n5_; clear n0_ n1_ n2_ n3_ n4_ n5_; (try clear hb); (try clear hb2); (try clear hk); (try clear hi); (try clear ho0); (try clear ho1)) | ((with_reducible refine gate_dst (N := 8) rfl ?_); refine box_event ?hg (N := 8) ?hd (cs := #[.slice none 0 0, .slice none 0 0]) (t := 36) ?hr ?_; (case hd => rfl); (case hg => rfl); (case hr => first | (go_simp; done) | (go_simp; rfl)); intro gb430 hg w38 hbox hb; have n0_ := Aside0.mk (Kd.V_below (Kd.V_elderB (by (with_reducible repeat (first | apply Kd.V_alloc | apply Kd.V_drewN | apply Kd.V_drew)); exact HO417.out) gb430 (Nat.le_of_eq hg.symm)) hb); have n1_ := Aside0.mk (Kd.V_below (Kd.V_elderB (by (with_reducible repeat (first | apply Kd.V_alloc | apply Kd.V_drewN | apply Kd.V_drew)); exact HO420.out) gb430 (Nat.le_of_eq hg.symm)) hb); have n2_ := Aside0.mk (Kd.V_below (Kd.V_elderB (by (with_reducible repeat (first | apply Kd.V_alloc | apply Kd.V_drewN | apply Kd.V_drew)); exact HO425.out) gb430 (Nat.le_of_eq hg.symm)) hb); have n3_ := Aside0.mk (Kd.V_below (Kd.V_elderB (by (with_reducible repeat (first | apply Kd.V_alloc | apply Kd.V_drewN | apply Kd.V_drew)); exact HO428.out) gb430 (Nat.le_of_eq hg.symm)) hb); have n4_ := Aside0.mk (blk_below (g := gb422) (o := .cells #[.slice Ao34 t415.length co34, .slice Ao36 t418.length co36] 36 (0, 0)) (by (with_reducible repeat (first | refine blk_drewN ?_ _ | refine blk_drew ?_ | refine blk_alloc ?_ _)); exact BK422.out) hb); have n5_ := Aside0.mk (below_step (by repeat (first | (with_reducible first | exact HB.out | apply below_alloc | apply pw_below_drewN | apply below_drew1 | refine below_set ?_ GE422.out) | exact HB.out)) hb); have n6_ := Aside0.mk (hbox); have n7_ := Aside0.mk ((by rw [hg]; exact (below_size (by repeat (first | (with_reducible first | exact HB.out | apply below_alloc | apply pw_below_drewN | apply below_drew1 | refine below_set ?_ GE422.out) | exact HB.out))) : w.heap.size ≤ gb430)); have n8_ := Aside0.mk ((by rw [hg]; exact (below_size (by repeat (first | (with_reducible first | exact HB.out | apply below_alloc | apply pw_below_drewN | apply below_drew1 | refine below_set ?_ GE422.out) | exact HB.out))) : w.heap.size ≤ gb430)); have n9_ := Aside0.mk ((by rw [hg]; exact Nat.ne_of_lt (blk_lt (g := gb422) (o := .cells #[.slice Ao34 t415.length co34, .slice Ao36 t418.length co36] 36 (0, 0)) (by (with_reducible repeat (first | refine blk_drewN ?_ _ | refine blk_drew ?_ | refine blk_alloc ?_ _)); exact BK422.out)) : gb422 ≠ gb430)); have n10_ := Aside0.mk ((by rw [hg]; exact Nat.ne_of_gt (blk_lt (g := gb422) (o := .cells #[.slice Ao34 t415.length co34, .slice Ao36 t418.length co36] 36 (0, 0)) (by (with_reducible repeat (first | refine blk_drewN ?_ _ | refine blk_drew ?_ | refine blk_alloc ?_ _)); exact BK422.out)) : gb430 ≠ gb422)); clear HO417; clear HO420; clear HO425; clear HO428; clear BK422; clear HB; have HO417 := n0_; have HO420 := n1_; have HO425 := n2_; have HO428 := n3_; have BK422 := n4_; have HB := n5_; have BK430 := n6_; have GW430 := n7_; have GE430 := n8_; have NB422_430 := n9_; have NB430_422 := n10_; clear n0_ n1_ n2_ n3_ n4_ n5_ n6_ n7_ n8_ n9_ n10_; clear hb hbox hg; obtain ⟨Ao39, co39, eo39⟩ := Kd.V_slice HO425.out; subst eo39; have hnb40 := NB430_422.out; have hnc40 := NB422_430.out; have hcz41_0 : w38.cell? ⟨gb430, 0, none⟩ = some (.slice none 0 0) := (blk_cell BK430.out 0).trans rfl; have hcz41_1 : w38.cell? ⟨gb430, 1, none⟩ = some (.slice none 0 0) := (blk_cell BK430.out 1).trans rfl; have hfz41_0 := blk_frozen BK430.out 0; have hfz41_1 := blk_frozen BK430.out 1; obtain ⟨Ao42, co42, eo42⟩ := Kd.V_slice HO428.out; subst eo42))
    go_ret2
    exact ⟨by first | rfl | (simp [errW_none, errW_some] <;> rfl) | (simp [*, errW_none, errW_some] <;> rfl) | (simp [errW_none, errW_some]; exact ⟨rfl, rfl⟩), by repeat (first | (with_reducible first | exact HB.out | apply below_alloc | apply pw_below_drewN | apply below_drew1 | refine below_set ?_ GE422.out | refine below_set ?_ GE430.out) | exact HB.out)⟩

end Go.Proofs.Ytimjajkkgfbanaa.P

-- impl.gcd, impl.lcm.
namespace Go.Proofs.Ytimjajkkgfbanaa.P
open Go.RowKit Go.Proofs.YtimjajkkgfbanaaW.PrintWords Go.Proofs.YtimjajkkgfbanaaW.PrintLast Go.Proofs.YtimjajkkgfbanaaW.PrintMore
set_option linter.unusedVariables false
set_option linter.unusedSimpArgs false

theorem gcd_l0 : ∀ (n m : Nat), n ≤ 1000000 → m ≤ 1000000 → Ev (fun k => impl_gcd.l0 k (m : Int) (n : Int)) ((Nat.gcd n m : Nat) : Int) := by
  intro n
  induction n using Nat.strongRecOn with
  | ind n ih =>
    intro m hn hm
    by_cases h0 : n = 0
    · subst h0
      rw [Nat.gcd_zero_left]
      refine Ev.step (f := fun k => some ((m : Nat) : Int)) (fun k => ?_) (Ev.now _)
      simp only [impl_gcd.l0]; rw [if_pos (by rfl)]
    · have hlt := Nat.mod_lt m (Nat.pos_of_ne_zero h0)
      have := ih (m % n) hlt n (by omega) hn
      rw [Nat.gcd_rec n m]
      refine Ev.step (fun k => ?_) this
      simp only [impl_gcd.l0]
      rw [if_neg (by omega), tmod_nat]
theorem gcd_f (m n : Nat) (hm : m ≤ 1000000) (hn : n ≤ 1000000) : Ev (fun k => impl_gcd.f k (m : Int) (n : Int)) ((Nat.gcd m n : Nat) : Int) := by
  rw [Nat.gcd_comm]; exact gcd_l0 n m hn hm
theorem lcm_le {m n : Nat} (hn : 0 < m ∨ 0 < n) : Nat.lcm m n ≤ m * n := by
  unfold Nat.lcm; exact Nat.div_le_self _ _
theorem lcm_f (m n : Nat) (hm : m ≤ 1000) (hn : n ≤ 1000) (h0 : 0 < m) : Ev (fun k => impl_lcm.f k (m : Int) (n : Int)) ((Nat.lcm m n : Nat) : Int) := by
  have hg : 0 < Nat.gcd m n := Nat.gcd_pos_of_pos_left n h0
  have hle : Nat.lcm m n ≤ m * n := lcm_le (.inl h0)
  have hmn : m * n ≤ 1000 * 1000 := Nat.mul_le_mul hm hn
  have hd : m / Nat.gcd m n * n = Nat.lcm m n := by
    unfold Nat.lcm
    rw [Nat.div_mul_right_comm (Nat.gcd_dvd_left m n)]
  have hd1 : m / Nat.gcd m n ≤ m := Nat.div_le_self _ _
  refine Ev.congr (fun k => rfl) (Ev.bind (gcd_f m n (by omega) (by omega)) ?_)
  simp only [if_neg (show ¬ (((Nat.gcd m n : Nat) : Int) = 0) by omega), tdiv_nat]
  have e1 : wrap64 ((m / Nat.gcd m n : Nat) : Int) = ((m / Nat.gcd m n : Nat) : Int) := by
    generalize m / Nat.gcd m n = x at hd1 ⊢
    exact w64 (by omega) (by omega)
  have e2 : wrap64 (((m / Nat.gcd m n : Nat) : Int) * (n : Int)) = ((Nat.lcm m n : Nat) : Int) := by
    have : ((m / Nat.gcd m n : Nat) : Int) * (n : Int) = ((Nat.lcm m n : Nat) : Int) := by rw [← hd, Int.natCast_mul]
    rw [this]; exact w64 (by omega) (by omega)
  rw [e1, e2]; exact Ev.now _
end Go.Proofs.Ytimjajkkgfbanaa.P

-- spec.SumOf.
namespace Go.Proofs.Ytimjajkkgfbanaa.P
open Go.RowKit Go.Proofs.YtimjajkkgfbanaaW.PrintWords Go.Proofs.YtimjajkkgfbanaaW.PrintLast Go.Proofs.YtimjajkkgfbanaaW.PrintMore
set_option linter.unusedVariables false
set_option linter.unusedSimpArgs false

theorem ssumOf_f (s t : ByteArray) (hs : s.size ≤ 70368744177664) (ht : t.size ≤ 70368744177664) : Ev (fun k => spec_SumOf.f k s t) (smr (chrs s) (chrs t)) := by
  obtain ⟨x, y, hev, hxy⟩ := l4small_f s hs
  obtain ⟨x2, y2, hev2, hxy2⟩ := l4small_f t ht
  refine Ev.congr (fun k => rfl) (Ev.bind hev (Ev.bind hev2 ?_))
  unfold smr
  cases hb : smallB (chrs s) with
  | false => simp only [Bool.false_eq_true, if_false, Bool.false_and]; exact Ev.now _
  | true =>
    cases hb2 : smallB (chrs t) with
    | false => simp only [Bool.false_eq_true, if_false, Bool.and_false, if_true]; exact Ev.now _
    | true =>
      obtain ⟨a, c, hp, hset, hm1, hm2, hpos, hper⟩ := smallB_ok hb
      obtain ⟨a2, c2, hp2, hset2, hm3, hm4, hpos2, hper2⟩ := smallB_ok hb2
      obtain ⟨rfl, rfl⟩ := hxy (by rw [hp]; rfl)
      obtain ⟨rfl, rfl⟩ := hxy2 (by rw [hp2]; rfl)
      have hh1 : hasB (cn (setf (chrs s))).1 (cn (setf (chrs s))).2 = setf (chrs s) := by rw [hset]; exact cn_has (parse_per hp).1 (parse_per hp).2
      have hh2 : hasB (cn (setf (chrs t))).1 (cn (setf (chrs t))).2 = setf (chrs t) := by rw [hset2]; exact cn_has (parse_per hp2).1 (parse_per hp2).2
      generalize (cn (setf (chrs s))).1 = x at *
      generalize (cn (setf (chrs s))).2 = y at *
      generalize (cn (setf (chrs t))).1 = x2 at *
      generalize (cn (setf (chrs t))).2 = y2 at *
      have hper3 : Per (sumq (hasB x y) (hasB x2 y2)) (2 * max x.length x2.length + 3 * Nat.lcm y.length y2.length + 2) (Nat.lcm y.length y2.length) := (sumq_per ((hasB_per x y).dvd (Nat.dvd_lcm_left _ _)) ((hasB_per x2 y2).dvd (Nat.dvd_lcm_right _ _))).mono (by omega)
      have := l4sum_f x y x2 y2 (List.length_pos_iff.1 hpos) (List.length_pos_iff.1 hpos2) hm1 hm2 hm3 hm4 false _ (fun n => sumB_sumq _ _ n) hper3
      rw [hh1, hh2] at this
      simp only [if_true, Bool.and_self]
      exact Ev.bind this (Ev.now _)
end Go.Proofs.Ytimjajkkgfbanaa.P

-- impl.sums asks all parts.
namespace Go.Proofs.Ytimjajkkgfbanaa.P
open Go.RowKit Go.Proofs.YtimjajkkgfbanaaW.PrintWords Go.Proofs.YtimjajkkgfbanaaW.PrintLast Go.Proofs.YtimjajkkgfbanaaW.PrintMore
set_option linter.unusedVariables false
set_option linter.unusedSimpArgs false

theorem sums_l0 (a b c d : List Bool) (hb : b ≠ []) (hd : d ≠ []) (h1 : a.length ≤ 60) (h2 : b.length ≤ 60) (h3 : c.length ≤ 60) (h4 : d.length ≤ 60) (n : Nat) (hn : n ≤ 100000) : ∀ (e i : Nat), i ≤ n + 1 → n + 1 - i = e →
    Ev (fun k => impl_sums.l0 k n ((n + 1 : Nat) : Int) i a b c d) (dec (∃ k, i ≤ k ∧ k ≤ n ∧ hasB a b k = true ∧ hasB c d (n - k) = true)) := by
  intro e
  induction e with
  | zero =>
    intro i hi he
    rw [dec_false (fun ⟨m, x, y, _⟩ => by omega)]
    refine Ev.step (f := fun k => some false) (fun k => ?_) (Ev.now _)
    simp only [impl_sums.l0]; rw [if_neg (by omega)]
  | succ e ih =>
    intro i hi he
    have c1 : (i : Int) < ((n + 1 : Nat) : Int) := by omega
    have c3 : i ≤ 4611686018427387904 := by omega
    have c4 : i ≤ n := by omega
    have c5 : n ≤ 4611686018427387904 := by omega
    have e1 := ihas_f a b hb (by omega) i (by omega)
    have e2 := ihas_f c d hd (by omega) (n - i) (by omega)
    have hih := ih (i + 1) (by omega) (by omega)
    by_cases hbad : hasB a b i = true ∧ hasB c d (n - i) = true
    · rw [dec_true ⟨i, Nat.le_refl _, c4, hbad⟩]
      refine Ev.step (f := fun k => some true) (fun k => ?_) (Ev.now _)
      simp only [impl_sums.l0]
      rw [if_pos c1, e1, hbad.1, Option.bind_some, if_pos rfl, wsub c4 c5, e2, hbad.2, Option.bind_some, if_pos rfl]
    · have hc : dec (∃ k, i ≤ k ∧ k ≤ n ∧ hasB a b k = true ∧ hasB c d (n - k) = true) = dec (∃ k, i + 1 ≤ k ∧ k ≤ n ∧ hasB a b k = true ∧ hasB c d (n - k) = true) := dec_congr ⟨fun ⟨m, x, y, z⟩ => by
        rcases Nat.eq_or_lt_of_le x with rfl | x
        · exact absurd z hbad
        · exact ⟨m, x, y, z⟩, fun ⟨m, x, y, z⟩ => ⟨m, by omega, y, z⟩⟩
      rw [hc]
      refine Ev.step (fun k => ?_) hih
      simp only [impl_sums.l0]
      rw [if_pos c1, e1, Option.bind_some]
      cases hx : hasB a b i with
      | false => rw [if_neg (by decide), wsucc c3]
      | true =>
        have hy : hasB c d (n - i) = false := by
          cases hz : hasB c d (n - i) with
          | false => rfl
          | true => exact absurd ⟨hx, hz⟩ hbad
        rw [if_pos rfl, wsub c4 c5, e2, hy, Option.bind_some, if_neg (by decide), wsucc c3]
theorem sums_f (a b c d : List Bool) (hb : b ≠ []) (hd : d ≠ []) (h1 : a.length ≤ 60) (h2 : b.length ≤ 60) (h3 : c.length ≤ 60) (h4 : d.length ≤ 60) (n : Nat) (hn : n ≤ 100000) : Ev (fun k => impl_sums.f k a b c d n) (sumq (hasB a b) (hasB c d) n) := by
  have h := sums_l0 a b c d hb hd h1 h2 h3 h4 n hn _ 0 (Nat.zero_le _) rfl
  have e : dec (∃ k, 0 ≤ k ∧ k ≤ n ∧ hasB a b k = true ∧ hasB c d (n - k) = true) = sumq (hasB a b) (hasB c d) n := dec_congr ⟨fun ⟨k, _, h⟩ => ⟨k, h⟩, fun ⟨k, h⟩ => ⟨k, Nat.zero_le _, h⟩⟩
  rw [e] at h
  refine Ev.congr (fun k => ?_) h
  unfold impl_sums.f
  rw [wsucc (by omega)]; rfl
end Go.Proofs.Ytimjajkkgfbanaa.P

-- impl.SumOf: the sum of two small sets.
namespace Go.Proofs.Ytimjajkkgfbanaa.P
open Go.RowKit Go.Proofs.YtimjajkkgfbanaaW.PrintWords Go.Proofs.YtimjajkkgfbanaaW.PrintLast Go.Proofs.YtimjajkkgfbanaaW.PrintMore
set_option linter.unusedVariables false
set_option linter.unusedSimpArgs false

noncomputable def impl_SumOf.f (s t : ByteArray) : Option (ByteArray × Bool) := if s.size ≤ 70368744177664 ∧ t.size ≤ 70368744177664 then some (smr (chrs s) (chrs t)) else none
theorem sumOf_f (s t : ByteArray) (hs : s.size ≤ 70368744177664) (ht : t.size ≤ 70368744177664) : impl_SumOf.f s t = some (smr (chrs s) (chrs t)) := by unfold impl_SumOf.f; rw [if_pos ⟨hs, ht⟩]

set_option maxHeartbeats 8000000 in
set_option maxRecDepth 100000 in
theorem sumOf_q_calls (b1 b2 : Nat)
    (x y x2 y2 : List Bool) (hy : y ≠ []) (hy2 : y2 ≠ []) (hl : x.length ≤ 60 ∧ y.length ≤ 60) (hl2 : x2.length ≤ 60 ∧ y2.length ≤ 60) (A0 : Option Addr) (c0 : Nat) (A1 : Option Addr) (c1 : Nat) (A2 : Option Addr) (c2 : Nat) (A3 : Option Addr) (c3 n : Nat) (hn : n ≤ 100000) (W : World)
    (hx0 : W.cell? ⟨b1, 0, none⟩ = some (.slice A0 x.length c0)) (hx1 : W.cell? ⟨b1, 1, none⟩ = some (.slice A1 y.length c1)) (hx2 : W.cell? ⟨b2, 0, none⟩ = some (.slice A2 x2.length c2)) (hx3 : W.cell? ⟨b2, 1, none⟩ = some (.slice A3 y2.length c3))
    (hC0 : Kd.C Kd.bool W A0 x.length x) (hc0 : x.length ≤ c0) (hC1 : Kd.C Kd.bool W A1 y.length y) (hc1 : y.length ≤ c1) (hC2 : Kd.C Kd.bool W A2 x2.length x2) (hc2 : x2.length ≤ c2) (hC3 : Kd.C Kd.bool W A3 y2.length y2) (hc3 : y2.length ≤ c3) :
    Calls Try.prog 33 #[.int .i64 n, .pointer (some ⟨b1, 0, none⟩), .pointer (some ⟨b2, 0, none⟩)] W fun e w' => e = .returned (.bool (sumq (hasB x y) (hasB x2 y2) n)) ∧ Below W.heap.size W w' := by
  have hu := Try.underlying42
  obtain ⟨k, hk⟩ := (sums_f x y x2 y2 hy hy2 hl.1 hl.2 hl2.1 hl2.2 n hn).rounds
  have HC1 := fun (W' : World) (hw : Below W.heap.size W W') => Aside0.mk (impl_sums.calls k A0 c0 x A1 c1 y A2 c2 x2 A3 c3 y2 (n : Int) _ W' (Kd.C_below hC0 hw) hc0 (Kd.C_below hC1 hw) hc1 (Kd.C_below hC2 hw) hc2 (Kd.C_below hC3 hw) hc3 hk)
  generalize sumq (hasB x y) (hasB x2 y2) n = p at *
  clear hC0 hC1 hC2 hC3 hc0 hc1 hc2 hc3 hl hl2 hy hy2 hn hk
  go_enter Try.func33, Try.ntmps33
  go_wp2_with (go_at_call 34; refine (HC1 _ (by repeat (first | exact Below.refl _ _ | apply below_drew1))).out.mono ?_; rintro e w1 ⟨rfl, hd⟩)
  go_ret
  exact ⟨rfl, hd⟩

set_option maxHeartbeats 8000000 in
set_option maxRecDepth 100000 in
theorem impl_SumOf.calls (s t : ByteArray) (r1 : ByteArray) (r2 : Bool) (w : World) (h : impl_SumOf.f s t = some (r1, r2)) :
    Calls Try.prog 15 #[.string s, .string t] w fun e w' => e = .returned (.tuple #[.string r1, .bool r2]) ∧ Below w.heap.size w w' := by
  unfold impl_SumOf.f at h
  split at h
  rotate_left
  · cases h
  rename_i hst
  obtain ⟨hs, ht⟩ := hst
  simp only [Option.some.injEq] at h
  have hR : r1 = (smr (chrs s) (chrs t)).1 ∧ r2 = (smr (chrs s) (chrs t)).2 := by rw [h]; exact ⟨rfl, rfl⟩
  obtain ⟨rfl, rfl⟩ := hR
  clear h
  obtain ⟨x, y, hev, hxy⟩ := small_f s hs
  obtain ⟨x2, y2, hev2, hxy2⟩ := small_f t ht
  obtain ⟨k, hk⟩ := hev.rounds
  obtain ⟨k2, hk2⟩ := hev2.rounds
  have hu := Try.underlying42
  clear hev hev2
  have key : ∀ (b b2 : Bool), smallB (chrs s) = b → smallB (chrs t) = b2 → Calls Try.prog 15 #[.string s, .string t] w fun e w' => e = .returned (.tuple #[.string (smr (chrs s) (chrs t)).1, .bool (smr (chrs s) (chrs t)).2]) ∧ Below w.heap.size w w' := by
    intro b b2 hb hb2
    rw [hb] at hk
    rw [hb2] at hk2
    have HK := fun w => Aside0.mk (impl_small.calls k s x y b w hk)
    have HK2 := fun w => Aside0.mk (impl_small.calls k2 t x2 y2 b2 w hk2)
    by_cases hall : b = true ∧ b2 = true
    · obtain ⟨rfl, rfl⟩ := hall
      obtain ⟨a, c, hp, hset, hm1, hm2, hpos, hper⟩ := smallB_ok hb
      obtain ⟨a2, c2, hp2, hset2, hm3, hm4, hpos2, hper2⟩ := smallB_ok hb2
      obtain ⟨rfl, rfl⟩ := hxy (by rw [hp]; rfl)
      obtain ⟨rfl, rfl⟩ := hxy2 (by rw [hp2]; rfl)
      have e : smr (chrs s) (chrs t) = txt (cn (sumq (setf (chrs s)) (setf (chrs t)))) := by
        unfold smr; rw [hb, hb2]; rfl
      rw [e]
      have hh1 : hasB (cn (setf (chrs s))).1 (cn (setf (chrs s))).2 = setf (chrs s) := by rw [hset]; exact cn_has (parse_per hp).1 (parse_per hp).2
      have hh2 : hasB (cn (setf (chrs t))).1 (cn (setf (chrs t))).2 = setf (chrs t) := by rw [hset2]; exact cn_has (parse_per hp2).1 (parse_per hp2).2
      generalize (cn (setf (chrs s))).1 = x at *
      generalize (cn (setf (chrs s))).2 = y at *
      generalize (cn (setf (chrs t))).1 = x2 at *
      generalize (cn (setf (chrs t))).2 = y2 at *
      obtain ⟨k3, hk3⟩ := (lcm_f y.length y2.length (by omega) (by omega) hpos).rounds
      have hL := lcm_le8 hpos hpos2 hm2 hm4
      have hL0 : 0 < Nat.lcm y.length y2.length := Nat.lcm_pos hpos hpos2
      have hper3 : Per (sumq (setf (chrs s)) (setf (chrs t))) 200 (Nat.lcm y.length y2.length) := (sumq_per (hper.dvd (Nat.dvd_lcm_left _ _)) (hper2.dvd (Nat.dvd_lcm_right _ _))).mono (by omega)
      rw [← hh1, ← hh2] at hper3 ⊢
      have eg : ∀ args w, (callFunc 33 args).run Try.prog w = .ok (.enter 33 args) w := enters_of Try.func33 (by kernel_rfl) rfl
      have HM := fun (lb : Array Value) (w : World) => Aside0.mk (made_calls (sumq (hasB x y) (hasB x2 y2)) 200 (Nat.lcm y.length y2.length) hL0 hper3 (by omega) 33 lb w eg)
      have HQ := Aside0.mk (show ((x.length ≤ 8 ∧ y.length ≤ 8) ∧ y ≠ []) ∧ ((x2.length ≤ 8 ∧ y2.length ≤ 8) ∧ y2 ≠ []) from ⟨⟨⟨hm1, hm2⟩, List.length_pos_iff.1 hpos⟩, ⟨⟨hm3, hm4⟩, List.length_pos_iff.1 hpos2⟩⟩)
      have HLL := Aside0.mk hL
      have HK3 := fun w => Aside0.mk (impl_lcm.calls k3 (y.length : Int) (y2.length : Int) _ w hk3)
      generalize Nat.lcm y.length y2.length = L at *
      clear hb hb2 hp hp2 hxy hxy2 hk hk2 hper hper2 hper3 eg hpos hpos2 hL hL0 e hh1 hh2 hset hset2 hm1 hm2 hm3 hm4 hk3
      go_enter Try.func15, Try.ntmps15
      go_wp2_with (first
        | (go_at_call 27; with_reducible refine (HK _).out.mono ?_; rintro e w1 ⟨v0_, v1_, rfl, hR0, hR1, hb1⟩; obtain ⟨A0, n0, rfl, hn0, hC0⟩ := Kd.R_reads hR0; obtain ⟨A1, n1, rfl, hn1, hC1⟩ := Kd.R_reads hR1; have C0 := Aside0.mk hC0; have C1 := Aside0.mk hC1; have N0 := Aside0.mk hn0; have N1 := Aside0.mk hn1; clear hR0 hR1 hC0 hC1 hn0 hn1; have HB := Aside0.mk hb1; clear hb1)
        | (go_at_call 27; with_reducible refine (HK2 _).out.mono ?_; rintro e w2 ⟨v2_, v3_, rfl, hR0, hR1, hb2⟩; obtain ⟨A2, n2, rfl, hn2, hC2⟩ := Kd.R_reads hR0; obtain ⟨A3, n3, rfl, hn3, hC3⟩ := Kd.R_reads hR1; have C2 := Aside0.mk hC2; have C3 := Aside0.mk hC3; have N2 := Aside0.mk hn2; have N3 := Aside0.mk hn3; clear hR0 hR1 hC2 hC3 hn2 hn3; have HB12 := Aside0.mk (below_step (below_alloc (Below.refl w1.heap.size w1) _) hb2); have e0 := (hb2.cell (p := ⟨w1.heap.size, 0, none⟩) (by simp)).trans (by simp : (w1.alloc (.cells #[.slice A0 x.length n0, .slice A1 y.length n1] _)).cell? ⟨w1.heap.size, 0, none⟩ = some (.slice A0 x.length n0)); have e1 := (hb2.cell (p := ⟨w1.heap.size, 1, none⟩) (by simp)).trans (by simp : (w1.alloc (.cells #[.slice A0 x.length n0, .slice A1 y.length n1] _)).cell? ⟨w1.heap.size, 1, none⟩ = some (.slice A1 y.length n1)); have E0 := Aside0.mk e0; have E1 := Aside0.mk e1; have l1 : w1.heap.size < w2.heap.size := Nat.lt_of_lt_of_le (by simp) hb2.size; have L1 := Aside0.mk l1; clear hb2)
        | (go_at_call 32; refine (HK3 _).out.mono ?_; rintro e w3 ⟨rfl, hd3⟩; have hb3 := drawn0_below hd3; have HB23 := Aside0.mk (below_step (below_alloc (Below.refl w2.heap.size w2) _) hb3); have G3 := Aside0.mk ((hb3.cell (p := ⟨w2.heap.size, 0, none⟩) (by simp)).trans (by simp : (w2.alloc (.cells #[.slice A2 x2.length n2, .slice A3 y2.length n3] _)).cell? ⟨w2.heap.size, 0, none⟩ = some (.slice A2 x2.length n2))); have G4 := Aside0.mk ((hb3.cell (p := ⟨w2.heap.size, 1, none⟩) (by simp)).trans (by simp : (w2.alloc (.cells #[.slice A2 x2.length n2, .slice A3 y2.length n3] _)).cell? ⟨w2.heap.size, 1, none⟩ = some (.slice A3 y2.length n3))); have L2 := Aside0.mk (Nat.lt_of_lt_of_le (by simp) hb3.size : w2.heap.size < w3.heap.size); clear hd3 hb3)
        | (go_at_call 31; refine ((HM _ _).out ?hc).mono ?_; (case hc =>
            intro W i hW hi
            have hBW := below_step HB23.out hW
            have hBW1 := below_step HB12.out hBW
            have hq := HQ.out
            have hl1 := L1.out
            have hl2 := L2.out
            have hs3 := hW.size
            have hL := HLL.out
            exact sumOf_q_calls w1.heap.size w2.heap.size x y x2 y2 hq.1.2 hq.2.2 (by omega) (by omega) A0 n0 A1 n1 A2 n2 A3 n3 i (by omega) W
              ((hBW.cell (p := ⟨w1.heap.size, 0, none⟩) hl1).trans E0.out)
              ((hBW.cell (p := ⟨w1.heap.size, 1, none⟩) hl1).trans E1.out)
              ((hW.cell (p := ⟨w2.heap.size, 0, none⟩) hl2).trans G3.out)
              ((hW.cell (p := ⟨w2.heap.size, 1, none⟩) hl2).trans G4.out)
              (Kd.C_below C0.out hBW1) N0.out (Kd.C_below C1.out hBW1) N1.out (Kd.C_below C2.out hBW) N2.out (Kd.C_below C3.out hBW) N3.out); rintro e w4 ⟨rfl, hb4⟩))
      go_ret2
      exact ⟨rfl, below_step (below_step HB.out (below_step HB12.out HB23.out)) hb4⟩
    · have e : smr (chrs s) (chrs t) = (⟨#[]⟩, false) := by
        unfold smr; rw [hb, hb2, if_neg (by simpa using hall)]
      rw [e]
      have hcase : b = false ∨ (b = true ∧ b2 = false) := by
        cases b with
        | false => exact .inl rfl
        | true =>
          cases b2 with
          | false => exact .inr ⟨rfl, rfl⟩
          | true => exact absurd ⟨rfl, rfl⟩ hall
      clear hb hb2 hk hk2 hxy hxy2 hall e
      rcases hcase with rfl | ⟨rfl, rfl⟩
      all_goals
        go_enter Try.func15, Try.ntmps15
        go_wp2_with (first
          | (go_at_call 27; with_reducible refine (HK _).out.mono ?_; rintro e w1 ⟨v0_, v1_, rfl, hR0, hR1, hb1⟩; obtain ⟨A0, n0, rfl, hn0, hC0⟩ := Kd.R_reads hR0; obtain ⟨A1, n1, rfl, hn1, hC1⟩ := Kd.R_reads hR1; clear hR0 hR1 hC0 hC1 hn0 hn1; have HB := Aside0.mk hb1; clear hb1)
          | (go_at_call 27; with_reducible refine (HK2 _).out.mono ?_; rintro e w2 ⟨v2_, v3_, rfl, hR0, hR1, hb2⟩; obtain ⟨A2, n2, rfl, hn2, hC2⟩ := Kd.R_reads hR0; obtain ⟨A3, n3, rfl, hn3, hC3⟩ := Kd.R_reads hR1; clear hR0 hR1 hC2 hC3 hn2 hn3; have HB2 := Aside0.mk (below_step HB.out (below_step (below_alloc (Below.refl w1.heap.size w1) _) hb2)); clear hb2))
        go_ret2
        refine ⟨rfl, ?_⟩
        repeat (first | exact HB2.out | apply below_alloc | (refine below_set ?_ HB2.out.size))
  exact key _ _ rfl rfl
end Go.Proofs.Ytimjajkkgfbanaa.P
