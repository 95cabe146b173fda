/- What these laws reach, joined by a program of this session: contracts (written by that program over the kit's print, or by hand) and plain lemmas. -/
import Derived.Lib.SliceRun
import Derived.Deep.QuietTactic
import Derived.BigQuiet
import Derived.Test.YtneadgionjlicaaK1
import Derived.Test.YtneadgionjlicaaK2
import Derived.Test.YtneadgionjlicaaK4
import Derived.Test.YtneadgionjlicaaK5
-- impl.Machine.next: the states to which one may step.
namespace Go.Proofs.Ytneadgionjlicaa.P
open Go.RowKit Go.Proofs.YtneadgionjlicaaW.PrintWords Go.Proofs.YtneadgionjlicaaW.PrintLast Go.Proofs.YtneadgionjlicaaW.PrintMore
set_option linter.unusedVariables false
set_option linter.unusedSimpArgs false

theorem next_l0 (l : List Int) (hl : l.length ≤ 1000000) (x : Int) : ∀ (d i : Nat), i ≤ l.length → l.length - i = d → Ev (fun k => impl_Machine_next.l0 k x (nxs l x i) l l.length i) (nxt l x) := by
  intro d
  induction d with
  | zero =>
    intro i hi hd
    have e : i = l.length := by omega
    subst e
    refine Ev.step (f := fun k => some (nxt l x)) (fun k => ?_) (Ev.now _)
    simp only [impl_Machine_next.l0]; rw [if_neg (by omega)]; rfl
  | succ d ih =>
    intro i hi hd
    refine Ev.step (fun k => ?_) (ih (i + 1) (by omega) (by omega))
    simp only [impl_Machine_next.l0, nxs]
    rw [if_pos (by omega), if_pos (by omega), if_pos (by omega), wsucc (by omega)]
    split <;> rfl
theorem next_f (l : List Int) (hl : l.length ≤ 1000000) (st en x : Int) : Ev (fun k => impl_Machine_next.f k l st en x) (nxt l x) := next_l0 l hl x _ 0 (Nat.zero_le _) rfl
end Go.Proofs.Ytneadgionjlicaa.P

-- spec.l6Open and pick: whatever is drawn lies in its range.
namespace Go.Proofs.Ytneadgionjlicaa.P
open Go.RowKit Go.Proofs.YtneadgionjlicaaW.PrintWords Go.Proofs.YtneadgionjlicaaW.PrintLast Go.Proofs.YtneadgionjlicaaW.PrintMore
set_option linter.unusedVariables false
set_option linter.unusedSimpArgs false

theorem bits_xor_nat (a b : Nat) (ha : a < 2 ^ 62) (hb : b < 2 ^ 62) : Go.bits .xor .i64 (a : Int) (b : Int) = ((a ^^^ b : Nat) : Int) := by
  have ha' : a % 2 ^ IntKind.i64.bits = a := Nat.mod_eq_of_lt (by show a < 2 ^ 64; omega)
  have hb' : b % 2 ^ IntKind.i64.bits = b := Nat.mod_eq_of_lt (by show b < 2 ^ 64; omega)
  have hx := Nat.xor_lt_two_pow ha hb
  simp only [Go.bits, BitVec.ofInt_natCast, BitVec.toNat_xor, BitVec.toNat_ofNat, ha', hb']
  rw [IntKind.wrap_i64]
  omega
theorem open_f (l : List Int) : spec_l6Open.f l = some (l.take 2000, 0) := by
  unfold spec_l6Open.f
  by_cases h : (l.length : Int) > 2000
  · rw [if_pos h, if_pos (by omega)]
  · rw [if_neg h, List.take_of_length_le (by omega)]
/-- The code of a draw: bytes, not too many. -/
structure Code (b : List Int) : Prop where
  byte : ∀ x ∈ b, 0 ≤ x ∧ x ≤ 255
  len : b.length ≤ 2000
theorem code_of {l : List Int} (h : ∀ x ∈ l, (Lit.int .u8 x).wf = true) : Code (l.take 2000) := by
  refine ⟨fun x hx => ?_, by rw [List.length_take]; omega⟩
  have := h x (List.mem_of_mem_take hx)
  have h0 : IntKind.u8.min = 0 := rfl
  have h1 : IntKind.u8.max = 255 := rfl
  simp [Lit.wf, h0, h1] at this
  omega
theorem Code.rd {b : List Int} (h : Code b) {i : Nat} (hi : i < b.length) : 0 ≤ Go.Proofs.YtneadgionjlicaaW.PrintWords.rd b (i : Int) ∧ Go.Proofs.YtneadgionjlicaaW.PrintWords.rd b (i : Int) ≤ 255 := by
  have e : Go.Proofs.YtneadgionjlicaaW.PrintWords.rd b (i : Int) = b[i] := by simp [Go.Proofs.YtneadgionjlicaaW.PrintWords.rd, List.getD_eq_getElem?_getD, hi]
  rw [e]; exact h.byte _ (List.getElem_mem hi)
theorem pick_f {b : List Int} (h : Code b) (p n : Nat) (hp : p ≤ 1000000) (hn : 1 ≤ n) (hn2 : n ≤ 1000000) : ∃ v : Nat, v < n ∧ Ev (fun k => spec_l6Rd_pick.f k b p n) ((v : Int), ((p + 1 : Nat) : Int)) := by
  have w1 : wrap64 ((p : Int) + 1) = ((p + 1 : Nat) : Int) := by rw [w64 (by omega) (by omega)]; omega
  have w2 : wrap64 (((p + 1 : Nat) : Int) - 1) = (p : Int) := by rw [w64 (by omega) (by omega)]; omega
  have hlen := h.len
  by_cases h0 : b.length = 0
  · refine ⟨0, by omega, ?_⟩
    have e : ((b.length : Int) == 0) = true := by rw [beq_iff_eq]; omega
    refine Ev.congr (f := fun k => spec_l6Rd_pick.j0 k n true b ((p + 1 : Nat) : Int)) (fun k => ?_) (Ev.step (f := fun k => some (0, ((p + 1 : Nat) : Int))) (fun k => ?_) (Ev.now _))
    · unfold spec_l6Rd_pick.f; rw [if_neg (by omega), e, w1]
    · simp only [spec_l6Rd_pick.j0]; rw [if_pos trivial]
  · have e : ((b.length : Int) == 0) = false := by rw [beq_eq_false_iff_ne]; omega
    have st : ∀ k, spec_l6Rd_pick.f k b p n = spec_l6Rd_pick.j0 k n false b ((p + 1 : Nat) : Int) := fun k => by
      unfold spec_l6Rd_pick.f; rw [if_neg (by omega), e, w1]
    by_cases hlt : p < b.length
    · obtain ⟨v, hv⟩ := Int.eq_ofNat_of_zero_le (h.rd hlt).1
      have hv2 := (h.rd hlt).2
      rw [hv] at hv2
      refine ⟨v % n, Nat.mod_lt _ (by omega), Ev.congr st (Ev.step (f := fun k => some (((v % n : Nat) : Int), ((p + 1 : Nat) : Int))) (fun k => ?_) (Ev.now _))⟩
      simp only [spec_l6Rd_pick.j0]
      rw [if_neg (by decide), w2, if_pos (by omega), if_pos (by omega), if_neg (by omega), hv, w64 (by omega) (by omega), Int.tmod_eq_emod_of_nonneg (by omega)]
      rfl
    · have hpos : 0 < b.length := by omega
      have m1 : Int.tmod (p : Int) (b.length : Int) = ((p % b.length : Nat) : Int) := by rw [Int.tmod_eq_emod_of_nonneg (by omega)]; rfl
      have w3 : wrap64 ((p : Int) * 7) = ((p * 7 : Nat) : Int) := by rw [w64 (by omega) (by omega)]; omega
      have w4 : wrap64 (((p * 7 : Nat) : Int) + 3) = ((p * 7 + 3 : Nat) : Int) := by rw [w64 (by omega) (by omega)]; omega
      have m2 : Int.tmod ((p * 7 + 3 : Nat) : Int) (b.length : Int) = (((p * 7 + 3) % b.length : Nat) : Int) := by rw [Int.tmod_eq_emod_of_nonneg (by omega)]; rfl
      have l1 := Nat.mod_lt p hpos
      have l2 := Nat.mod_lt (p * 7 + 3) hpos
      obtain ⟨v1, hv1⟩ := Int.eq_ofNat_of_zero_le (h.rd l1).1
      obtain ⟨v2, hv2⟩ := Int.eq_ofNat_of_zero_le (h.rd l2).1
      have u1 := (h.rd l1).2
      have u2 := (h.rd l2).2
      rw [hv1] at u1
      rw [hv2] at u2
      have q1 : Int.tdiv (p : Int) (b.length : Int) = ((p / b.length : Nat) : Int) := by rw [Int.tdiv_eq_ediv_of_nonneg (by omega)]; rfl
      have q1l : p / b.length ≤ p := Nat.div_le_self _ _
      generalize p / b.length = qq at q1 q1l
      have s1 : wrap64 (wrap64 (v1 : Int) * 131) = ((v1 * 131 : Nat) : Int) := by rw [w64 (x := (v1 : Int)) (by omega) (by omega), w64 (by omega) (by omega)]; omega
      have s2 : wrap64 (wrap64 (v2 : Int) * 1117) = ((v2 * 1117 : Nat) : Int) := by rw [w64 (x := (v2 : Int)) (by omega) (by omega), w64 (by omega) (by omega)]; omega
      have s3 : wrap64 ((p : Int) * 29) = ((p * 29 : Nat) : Int) := by rw [w64 (by omega) (by omega)]; omega
      have s4 : wrap64 (wrap64 ((qq : Nat) : Int) * 53) = ((qq * 53 : Nat) : Int) := by rw [w64 (x := ((qq : Nat) : Int)) (by omega) (by omega), w64 (by omega) (by omega)]; omega
      have s5 : wrap64 (wrap64 (wrap64 (((v1 * 131 : Nat) : Int) + ((v2 * 1117 : Nat) : Int)) + ((p * 29 : Nat) : Int)) + ((qq * 53 : Nat) : Int)) = ((v1 * 131 + v2 * 1117 + p * 29 + qq * 53 : Nat) : Int) := by
        rw [w64 (x := ((v1 * 131 : Nat) : Int) + ((v2 * 1117 : Nat) : Int)) (by omega) (by omega), w64 (x := ((v1 * 131 : Nat) : Int) + ((v2 * 1117 : Nat) : Int) + ((p * 29 : Nat) : Int)) (by omega) (by omega), w64 (by omega) (by omega)]; omega
      generalize hX : v1 * 131 + v2 * 1117 + p * 29 + qq * 53 = X at s5
      have hXl : X < 100000000 := by omega
      have s6 : wrap64 (Int.tdiv (X : Int) 64) = ((X / 64 : Nat) : Int) := by
        rw [Int.tdiv_eq_ediv_of_nonneg (by omega), w64 (by omega) (by omega)]; omega
      have hx := bits_xor_nat X (X / 64) (by omega) (by omega)
      refine ⟨(X ^^^ X / 64) % n, Nat.mod_lt _ (by omega), Ev.congr st (Ev.step (f := fun k => some ((((X ^^^ X / 64) % n : Nat) : Int), ((p + 1 : Nat) : Int))) (fun k => ?_) (Ev.now _))⟩
      simp only [spec_l6Rd_pick.j0]
      rw [if_neg (by decide), w2, if_neg (by omega), if_neg (by omega), m1, w3, w4, m2, if_pos (by omega), if_pos (by omega), if_pos (by omega), if_pos (by omega), if_neg (by omega), hv1, hv2, q1, s1, s2, s3, s4, s5, s6, hx, Int.tmod_eq_emod_of_nonneg (by omega)]
      rfl

end Go.Proofs.Ytneadgionjlicaa.P

-- spec.l91Machine draws a machine.
namespace Go.Proofs.Ytneadgionjlicaa.P
open Go.RowKit Go.Proofs.YtneadgionjlicaaW.PrintWords Go.Proofs.YtneadgionjlicaaW.PrintLast Go.Proofs.YtneadgionjlicaaW.PrintMore
set_option linter.unusedVariables false
set_option linter.unusedSimpArgs false

/-- What was drawn: a machine of few steps, and the place behind it. -/
def Drawn4 (p : Nat) (r : List Int × Int × Int × Int) : Prop := r.1.length ≤ 100 ∧ ∃ q : Nat, r.2.2.2 = (q : Int) ∧ q ≤ p
theorem pow_small {n : Nat} (h : n ≤ 5) : 1 ≤ 2 ^ n ∧ 2 ^ n ≤ 32 := ⟨Nat.two_pow_pos n, by have : 2 ^ n ≤ 2 ^ 5 := Nat.pow_le_pow_right (by omega) h; omega⟩
theorem drawMach_j1 {b : List Int} (h : Code b) (n : Nat) (hn : n ≤ 5) (p : Nat) (hp : p ≤ 900000) (l : List Int) (hl : l.length ≤ 90) (x y : Int) : ∃ r, Drawn4 (p + 2) r ∧ Ev (fun k => spec_l91Machine.j1 k n b p l x y) r := by
  obtain ⟨v, hv, K1, h1⟩ := pick_f h p 20 (by omega) (by omega) (by omega)
  obtain ⟨u, hu, K2, h2⟩ := pick_f h (p + 1) 2 (by omega) (by omega) (by omega)
  have g1 : ∀ k, K1 ≤ k → spec_l6Rd_pick.f k b (p : Int) 20 = some ((v : Int), ((p + 1 : Nat) : Int)) := h1
  have g2 : ∀ k, K2 ≤ k → spec_l6Rd_pick.f k b ((p + 1 : Nat) : Int) 2 = some ((u : Int), ((p + 1 + 1 : Nat) : Int)) := h2
  clear h1 h2
  by_cases c0 : v = 0
  · subst c0
    refine ⟨(l, x, rd [(-1), shl .i64 1 (n : Int)] (u : Int), ((p + 1 + 1 : Nat) : Int)), ⟨by show l.length ≤ 100; omega, p + 1 + 1, rfl, by omega⟩, K1 + K2 + 1, fun k hk => ?_⟩
    obtain ⟨k, rfl⟩ : ∃ j, k = j + 1 := ⟨k - 1, by omega⟩
    have c1 : (u : Int) < (([(-1), shl .i64 1 (n : Int)] : List Int).length : Int) := by show (u : Int) < 2; omega
    simp only [spec_l91Machine.j1]
    rw [g1 k (by omega), Option.bind_some]
    dsimp only
    rw [if_pos (by omega), if_pos (by omega), Option.bind_some, g2 k (by omega), Option.bind_some]
    dsimp only
    rw [if_pos (by omega), if_pos c1]
  · by_cases c1 : v = 1
    · subst c1
      refine ⟨(l ++ [1, 1, 1, 1, 1], x, y, ((p + 1 : Nat) : Int)), ⟨by show (l ++ _).length ≤ 100; rw [List.length_append]; show l.length + 5 ≤ 100; omega, p + 1, rfl, by omega⟩, K1 + 1, fun k hk => ?_⟩
      obtain ⟨k, rfl⟩ : ∃ j, k = j + 1 := ⟨k - 1, by omega⟩
      have c2 : l.length + ([1, 1, 1, 1, 1] : List Int).length < 17592186044416 := by show l.length + 5 < 17592186044416; omega
      simp only [spec_l91Machine.j1]
      rw [g1 k (by omega), Option.bind_some]
      dsimp only
      rw [if_neg (by omega), if_pos (by omega), Option.bind_some, if_pos c2]
    · by_cases c2 : v = 2
      · subst c2
        refine ⟨([], x, y, ((p + 1 : Nat) : Int)), ⟨by show (0 : Nat) ≤ 100; omega, p + 1, rfl, by omega⟩, K1 + 1, fun k hk => ?_⟩
        obtain ⟨k, rfl⟩ : ∃ j, k = j + 1 := ⟨k - 1, by omega⟩
        simp only [spec_l91Machine.j1]
        rw [g1 k (by omega), Option.bind_some]
        dsimp only
        rw [if_neg (by omega), if_neg (by omega), if_pos (by omega)]
      · refine ⟨(l, x, y, ((p + 1 : Nat) : Int)), ⟨by show l.length ≤ 100; omega, p + 1, rfl, by omega⟩, K1 + 1, fun k hk => ?_⟩
        obtain ⟨k, rfl⟩ : ∃ j, k = j + 1 := ⟨k - 1, by omega⟩
        simp only [spec_l91Machine.j1]
        rw [g1 k (by omega), Option.bind_some]
        dsimp only
        rw [if_neg (by omega), if_neg (by omega), if_neg (by omega)]
theorem drawMach_l0 {b : List Int} (h : Code b) (n : Nat) (hn0 : 1 ≤ n) (hn : n ≤ 5) (one : Bool) (y : Int) : ∀ (d i p : Nat) (l : List Int) (x : Int), i ≤ n → n - i = d → p + 2 * d + 10 ≤ 900000 → l.length + d ≤ 50 → ∃ r, Drawn4 (p + 2 * d + 3) r ∧ Ev (fun k => spec_l91Machine.l0 k n one i b p l x y) r := by
  have hpw := pow_small hn
  intro d
  induction d with
  | zero =>
    intro i p l x hi hd hp hl
    cases one with
    | false =>
      obtain ⟨r, h1, h2⟩ := drawMach_j1 h n hn p (by omega) l (by omega) x y
      refine ⟨r, ⟨h1.1, by obtain ⟨q, a, c⟩ := h1.2; exact ⟨q, a, by omega⟩⟩, Ev.step (fun k => ?_) h2⟩
      simp only [spec_l91Machine.l0]
      rw [if_neg (by omega), if_neg (by decide)]
    | true =>
      obtain ⟨v, hv, K1, h1⟩ := pick_f h p n (by omega) (by omega) (by omega)
      dsimp only at h1
      obtain ⟨r, h3, K2, h2⟩ := drawMach_j1 h n hn (p + 1) (by omega) l (by omega) (shl .i64 1 (v : Int)) y
      dsimp only at h2
      refine ⟨r, ⟨h3.1, by obtain ⟨q, a, c⟩ := h3.2; exact ⟨q, a, by omega⟩⟩, K1 + K2 + 1, fun k hk => ?_⟩
      obtain ⟨k, rfl⟩ : ∃ j, k = j + 1 := ⟨k - 1, by omega⟩
      simp only [spec_l91Machine.l0]
      rw [if_neg (by omega), if_pos (by trivial), h1 k (by omega), Option.bind_some]
      dsimp only
      rw [if_pos (by omega)]
      exact h2 k (by omega)
  | succ d ih =>
    intro i p l x hi hd hp hl
    cases one with
    | false =>
      obtain ⟨v, hv, K1, h1⟩ := pick_f h p (2 ^ n) (by omega) (by omega) (by omega)
      dsimp only at h1
      obtain ⟨u, hu, K2, h2⟩ := pick_f h (p + 1) (2 ^ n) (by omega) (by omega) (by omega)
      dsimp only at h2
      obtain ⟨r, h4, K3, h3⟩ := ih (i + 1) (p + 1 + 1) (l ++ [Go.bits .and .i64 (v : Int) (u : Int)]) x (by omega) (by omega) (by omega) (by rw [List.length_append]; show l.length + 1 + d ≤ 50; omega)
      dsimp only at h3
      refine ⟨r, ⟨h4.1, by obtain ⟨q, a, c⟩ := h4.2; exact ⟨q, a, by omega⟩⟩, K1 + K2 + K3 + 1, fun k hk => ?_⟩
      obtain ⟨k, rfl⟩ : ∃ j, k = j + 1 := ⟨k - 1, by omega⟩
      simp only [spec_l91Machine.l0]
      rw [if_pos (by omega), if_neg (by decide), if_pos (by omega), shl_pow (by omega), h1 k (by omega), Option.bind_some]
      dsimp only
      rw [h2 k (by omega), Option.bind_some]
      dsimp only
      rw [if_pos (by omega), wsucc (by omega)]
      exact h3 k (by omega)
    | true =>
      obtain ⟨v, hv, K1, h1⟩ := pick_f h p n (by omega) (by omega) (by omega)
      dsimp only at h1
      obtain ⟨r, h4, K3, h3⟩ := ih (i + 1) (p + 1) (l ++ [shl .i64 1 (v : Int)]) x (by omega) (by omega) (by omega) (by rw [List.length_append]; show l.length + 1 + d ≤ 50; omega)
      dsimp only at h3
      refine ⟨r, ⟨h4.1, by obtain ⟨q, a, c⟩ := h4.2; exact ⟨q, a, by omega⟩⟩, K1 + K3 + 1, fun k hk => ?_⟩
      obtain ⟨k, rfl⟩ : ∃ j, k = j + 1 := ⟨k - 1, by omega⟩
      simp only [spec_l91Machine.l0]
      rw [if_pos (by omega), if_pos (by trivial), h1 k (by omega), Option.bind_some]
      dsimp only
      rw [if_pos (by omega), if_pos (by omega), wsucc (by omega)]
      exact h3 k (by omega)
theorem drawMach_f {b : List Int} (h : Code b) (p : Nat) (hp : p ≤ 800000) : ∃ r, Drawn4 (p + 100) r ∧ Ev (fun k => spec_l91Machine.f k b p) r := by
  obtain ⟨v, hv, K1, h1⟩ := pick_f h p 5 (by omega) (by omega) (by omega)
  have g1 : ∀ k, K1 ≤ k → spec_l6Rd_pick.f k b (p : Int) 5 = some ((v : Int), ((p + 1 : Nat) : Int)) := h1
  have hpw := pow_small (show 1 + v ≤ 5 by omega)
  obtain ⟨u, hu, K2, h2⟩ := pick_f h (p + 1) (2 ^ (1 + v)) (by omega) (by omega) (by omega)
  dsimp only at h2
  obtain ⟨x, hx, K3, h3⟩ := pick_f h (p + 1 + 1) (2 ^ (1 + v)) (by omega) (by omega) (by omega)
  dsimp only at h3
  obtain ⟨y, hy, K4, h4⟩ := pick_f h (p + 1 + 1 + 1) 2 (by omega) (by omega) (by omega)
  have g4 : ∀ k, K4 ≤ k → spec_l6Rd_pick.f k b ((p + 1 + 1 + 1 : Nat) : Int) 2 = some ((y : Int), ((p + 1 + 1 + 1 + 1 : Nat) : Int)) := h4
  obtain ⟨r, h5, K6, h6⟩ := drawMach_l0 h (1 + v) (by omega) (by omega) ((y : Int) == 0) (x : Int) (1 + v) 0 (p + 1 + 1 + 1 + 1) [] (u : Int) (by omega) (by omega) (by omega) (by show 0 + (1 + v) ≤ 50; omega)
  have g6 : ∀ k, K6 ≤ k → spec_l91Machine.l0 k ((1 + v : Nat) : Int) ((y : Int) == 0) 0 b ((p + 1 + 1 + 1 + 1 : Nat) : Int) [] (u : Int) (x : Int) = some r := h6
  clear h1 h4 h6
  have hw : wrap64 (1 + (v : Int)) = ((1 + v : Nat) : Int) := by rw [w64 (by omega) (by omega)]; omega
  refine ⟨r, ⟨h5.1, by obtain ⟨q, a, c⟩ := h5.2; exact ⟨q, a, by omega⟩⟩, K1 + K2 + K3 + K4 + K6, fun k hk => ?_⟩
  dsimp only
  unfold spec_l91Machine.f
  rw [g1 k (by omega), Option.bind_some]
  dsimp only
  rw [hw, if_pos (by clear hw; omega), shl_pow (by clear hw; omega), h2 k (by clear hw; omega), Option.bind_some]
  dsimp only
  rw [h3 k (by clear hw; omega), Option.bind_some]
  dsimp only
  rw [g4 k (by clear hw; omega), Option.bind_some]
  exact g6 k (by clear hw; omega)
end Go.Proofs.Ytneadgionjlicaa.P

-- impl.setOf reads what parse tells.
namespace Go.Proofs.Ytneadgionjlicaa.P
open Go.RowKit Go.Proofs.YtneadgionjlicaaW.PrintWords Go.Proofs.YtneadgionjlicaaW.PrintLast Go.Proofs.YtneadgionjlicaaW.PrintMore
set_option linter.unusedVariables false
set_option linter.unusedSimpArgs false
theorem index1_f (s : ByteArray) (c : UInt8) : stringslite_Index.f s ⟨#[c]⟩ = some (if (chrs s).findIdx (· == c) < s.size then (((chrs s).findIdx (· == c) : Nat) : Int) else -1) := by
  unfold stringslite_Index.f; rw [if_pos (show (⟨#[c]⟩ : ByteArray).size = 1 from rfl)]; rfl
theorem cut_f (s : ByteArray) (c : UInt8) (hs : s.size ≤ 70368744177664) : strings_Cut.f s ⟨#[c]⟩ = some (if (chrs s).findIdx (· == c) < s.size then (s.extract 0 ((chrs s).findIdx (· == c)), s.extract ((chrs s).findIdx (· == c) + 1) s.size, true) else (s, ⟨#[]⟩, false)) := by
  unfold strings_Cut.f stringslite_Cut.f
  rw [index1_f]
  simp only [Option.bind_some]
  generalize (chrs s).findIdx (· == c) = p
  by_cases h : p < s.size
  · rw [if_pos h]
    have hw : wrap64 ((p : Int) + ((⟨#[c]⟩ : ByteArray).size : Int)) = ((p + 1 : Nat) : Int) := by
      have : (⟨#[c]⟩ : ByteArray).size = 1 := rfl
      rw [this, w64 (by omega) (by omega)]; omega
    rw [if_pos (by omega), if_pos (by omega), if_pos (by omega), hw, if_pos (by omega), if_pos (by omega), if_pos h]
    simp only [Int.toNat_natCast, Option.bind_some]
  · rw [if_neg h, if_neg (by omega), if_neg h]; rfl
theorem suffix_f (s : ByteArray) (c : UInt8) (hs : s.size ≤ 70368744177664) : strings_CutSuffix.f s ⟨#[c]⟩ = some (if (chrs s)[s.size - 1]? = some c then (s.extract 0 (s.size - 1), true) else (s, false)) := by
  unfold strings_CutSuffix.f stringslite_CutSuffix.f stringslite_HasSuffix.f
  have h1 : (⟨#[c]⟩ : ByteArray).size = 1 := rfl
  rw [h1]
  by_cases h : s.size = 0
  · rw [if_neg (by omega)]
    have : chrs s = [] := List.eq_nil_of_length_eq_zero (by rw [chrs_length]; exact h)
    simp [this]
  · have hw : wrap64 ((s.size : Int) - ((1 : Nat) : Int)) = ((s.size - 1 : Nat) : Int) := by rw [w64 (by omega) (by omega)]; omega
    rw [if_pos (by omega), hw, if_pos (by omega), if_pos (by omega)]
    simp only [Option.bind_some, Int.toNat_natCast]
    have e : (((s.extract (s.size - 1) s.size).toList == (⟨#[c]⟩ : ByteArray).toList) = true) ↔ (chrs s)[s.size - 1]? = some c := by
      rw [beq_iff_eq, ByteArray.toList_eq, ByteArray.toList_eq]
      show chrs _ = [c] ↔ _
      rw [chrs_extract, List.take_of_length_le (by rw [chrs_length]; omega)]
      have hl : s.size - 1 < (chrs s).length := by rw [chrs_length]; omega
      rw [List.drop_eq_getElem_cons hl, List.drop_of_length_le (by rw [chrs_length]; omega), List.getElem?_eq_getElem hl]
      simp
    by_cases hc : (chrs s)[s.size - 1]? = some c
    · rw [if_pos (e.2 hc), if_pos (by omega), if_pos (by omega), if_pos hc]; rfl
    · rw [if_neg (fun h => hc (e.1 h)), if_neg hc]; rfl

theorem isigns_ev (s : ByteArray) (hs : s.size ≤ 70368744177664) : ∀ (d : Nat) (i : Nat) (acc : List Bool), i ≤ s.size → s.size - i = d → acc.length ≤ i →
    Ev (fun k => impl_signs.l0 k acc (bytesOf s) ((bytesOf s).length : Int) i) (match bitsL ((chrs s).drop i) with | some l => (acc ++ l, decide ((acc ++ l).length ≤ 60)) | none => ([], false)) := by
  intro d
  induction d with
  | zero =>
    intro i acc hi hd ha
    refine Ev.step (f := fun k => some (acc, decide ((acc.length : Int) ≤ 60))) (fun k => ?_) ?_
    · simp only [impl_signs.l0, bytesOf_length]; rw [if_neg (by omega)]
    · have : (chrs s).drop i = [] := by rw [List.drop_eq_nil_iff, chrs_length]; omega
      rw [this]; simp only [bitsL, List.append_nil]
      have e : decide ((acc.length : Int) ≤ 60) = decide (acc.length ≤ 60) := by apply decide_eq_decide.2; omega
      rw [e]; exact Ev.now _
  | succ d ih =>
    intro i acc hi hd ha
    have hlt : i < s.size := by omega
    have hl : i < (chrs s).length := by rw [chrs_length]; exact hlt
    have hdrop : (chrs s).drop i = (chrs s)[i] :: (chrs s).drop (i + 1) := List.drop_eq_getElem_cons hl
    have hw : wrap64 ((i : Int) + 1) = ((i + 1 : Nat) : Int) := by rw [w64 (by omega) (by omega)]; omega
    have hb := bt_chr s hlt
    rw [hdrop]
    by_cases c0 : (chrs s)[i] = 48
    · have e : bt s (i : Int) = 48 := by rw [hb, c0]; rfl
      refine Ev.step (f := fun k => impl_signs.l0 k (acc ++ [false]) (bytesOf s) ((bytesOf s).length : Int) ((i + 1 : Nat) : Int)) (fun k => ?_) ?_
      · simp only [impl_signs.l0, bytesOf_length, rd_bytesOf]; rw [if_pos (by omega), if_pos (by omega), if_pos (by omega), if_pos e, if_pos (by omega), hw, e]; rfl
      · have := ih (i + 1) (acc ++ [false]) (by omega) (by omega) (by simp; omega)
        simp only [bitsL, if_pos c0]
        cases h : bitsL ((chrs s).drop (i + 1)) with
        | none => rw [h] at this; exact this
        | some l => rw [h] at this; simpa using this
    · by_cases c1 : (chrs s)[i] = 49
      · have e : bt s (i : Int) = 49 := by rw [hb, c1]; rfl
        refine Ev.step (f := fun k => impl_signs.l0 k (acc ++ [true]) (bytesOf s) ((bytesOf s).length : Int) ((i + 1 : Nat) : Int)) (fun k => ?_) ?_
        · simp only [impl_signs.l0, bytesOf_length, rd_bytesOf]; rw [if_pos (by omega), if_pos (by omega), if_pos (by omega), if_neg (by omega), if_pos e, if_pos (by omega), hw]
        · have := ih (i + 1) (acc ++ [true]) (by omega) (by omega) (by simp; omega)
          simp only [bitsL, if_neg c0, if_pos c1]
          cases h : bitsL ((chrs s).drop (i + 1)) with
          | none => rw [h] at this; exact this
          | some l => rw [h] at this; simpa using this
      · refine Ev.step (f := fun k => some (([] : List Bool), false)) (fun k => ?_) ?_
        · have e0 : ¬ bt s (i : Int) = 48 := by rw [hb]; intro h; exact c0 ((u8_eq (n := 48) (by omega)).1 h)
          have e1 : ¬ bt s (i : Int) = 49 := by rw [hb]; intro h; exact c1 ((u8_eq (n := 49) (by omega)).1 h)
          simp only [impl_signs.l0, bytesOf_length, rd_bytesOf]; rw [if_pos (by omega), if_pos (by omega), if_pos (by omega), if_neg e0, if_neg e1]
        · simp only [bitsL, if_neg c0, if_neg c1]; exact Ev.now _

/-- What impl.signs answers. -/
def sgns (s : List UInt8) : List Bool × Bool := match bitsL s with | some l => (l, decide (l.length ≤ 60)) | none => ([], false)
theorem isigns_f (s : ByteArray) (hs : s.size ≤ 70368744177664) : Ev (fun k => impl_signs.f k s) (sgns (chrs s)) := by
  have := isigns_ev s hs s.size 0 [] (by omega) (by omega) (by simp)
  unfold sgns
  refine Ev.congr (fun k => ?_) (by simpa using this)
  unfold impl_signs.f bytesConv.f; rw [if_pos hs]; simp only [Option.bind_some, bytesOf_length]

/-- What impl.setOf answers, out of its parts. -/
def setFin (o e : Bool) (X Y : List Bool × Bool) : List Bool × List Bool × Bool := (X.1, Y.1, o && e && X.2 && Y.2 && decide (0 < Y.1.length))
theorem setOf_ev (s A R B : ByteArray) (o e : Bool) (h1 : strings_Cut.f s ⟨#[40]⟩ = some (A, R, o)) (h2 : strings_CutSuffix.f R ⟨#[41]⟩ = some (B, e)) (hA : A.size ≤ 70368744177664) (hB : B.size ≤ 70368744177664) :
    Ev (fun k => impl_setOf.f k s) (setFin o e (sgns (chrs A)) (sgns (chrs B))) := by
  refine Ev.congr (f := fun k => (impl_signs.f k A).bind fun X => (impl_signs.f k B).bind fun Y => some (setFin o e X Y)) (fun k => ?_) (Ev.bind (isigns_f A hA) (Ev.bind (isigns_f B hB) (Ev.now _)))
  unfold impl_setOf.f
  rw [h1]
  simp only [Option.bind_some]
  rw [h2]
  simp only [Option.bind_some]
  congr 1; funext X; congr 1; funext Y
  unfold setFin
  have ed : decide ((Y.1.length : Int) > 0) = decide (0 < Y.1.length) := by apply decide_eq_decide.2; omega
  rw [ed]
  cases o <;> cases e <;> rcases X with ⟨x, _ | _⟩ <;> rcases Y with ⟨y, _ | _⟩ <;> simp

theorem setOf_f (s : ByteArray) (hs : s.size ≤ 70368744177664) : ∃ x y, Ev (fun k => impl_setOf.f k s) (x, y, (parse (chrs s)).isSome) ∧ ∀ a b, parse (chrs s) = some (a, b) → x = a ∧ y = b := by
  have hp := (chrs s).findIdx_le_length (p := (· == 40))
  rw [chrs_length] at hp
  have h1 := cut_f s 40 hs
  -- out of the parts
  have fin : ∀ A R B o e, strings_Cut.f s ⟨#[40]⟩ = some (A, R, o) → strings_CutSuffix.f R ⟨#[41]⟩ = some (B, e) → A.size ≤ s.size → B.size ≤ s.size → (setFin o e (sgns (chrs A)) (sgns (chrs B))).2.2 = (parse (chrs s)).isSome → (∀ a b, parse (chrs s) = some (a, b) → (sgns (chrs A)).1 = a ∧ (sgns (chrs B)).1 = b) →
      ∃ x y, Ev (fun k => impl_setOf.f k s) (x, y, (parse (chrs s)).isSome) ∧ ∀ a b, parse (chrs s) = some (a, b) → x = a ∧ y = b := fun A R B o e g1 g2 g3 g4 g5 g6 => by
    have := setOf_ev s A R B o e g1 g2 (by omega) (by omega)
    refine ⟨(sgns (chrs A)).1, (sgns (chrs B)).1, ?_, g6⟩
    rw [← g5]; exact this
  by_cases h : (chrs s).findIdx (· == 40) < s.size
  · rw [if_pos h] at h1
    have hsz : (s.extract ((chrs s).findIdx (· == 40) + 1) s.size).size = s.size - ((chrs s).findIdx (· == 40) + 1) := by simp
    have h2 := suffix_f (s.extract ((chrs s).findIdx (· == 40) + 1) s.size) 41 (by omega)
    have he : (chrs (s.extract ((chrs s).findIdx (· == 40) + 1) s.size))[(s.extract ((chrs s).findIdx (· == 40) + 1) s.size).size - 1]? = if (chrs s).findIdx (· == 40) + 1 < s.size then (chrs s)[s.size - 1]? else none := by
      rw [chrs_extract, List.take_of_length_le (by rw [chrs_length]; omega), hsz, List.getElem?_drop]
      split
      · congr 1; omega
      · exact List.getElem?_eq_none (by rw [chrs_length]; omega)
    rw [he] at h2
    have hP : parse (chrs s) = if (chrs s).findIdx (· == 40) + 2 < s.size ∧ (chrs s)[s.size - 1]? = some 41 then
        match bitsL ((chrs s).take ((chrs s).findIdx (· == 40))), bitsL (((chrs s).take (s.size - 1)).drop ((chrs s).findIdx (· == 40) + 1)) with
        | some a, some b => if a.length ≤ 60 ∧ b.length ≤ 60 then some (a, b) else none
        | _, _ => none else none := by unfold parse; rw [chrs_length] <;> rfl
    have hc1 : chrs (s.extract 0 ((chrs s).findIdx (· == 40))) = (chrs s).take ((chrs s).findIdx (· == 40)) := by rw [chrs_extract, List.drop_zero]
    have hA : (s.extract 0 ((chrs s).findIdx (· == 40))).size ≤ s.size := by simp; omega
    generalize hq : (chrs s).findIdx (· == 40) = p at *
    by_cases h3 : (if p + 1 < s.size then (chrs s)[s.size - 1]? else none) = some 41
    · rw [if_pos h3] at h2
      have h4 : p + 1 < s.size := by
        refine Classical.byContradiction fun hn => ?_
        rw [if_neg hn] at h3; cases h3
      rw [if_pos h4] at h3
      have hc2 : chrs ((s.extract (p + 1) s.size).extract 0 ((s.extract (p + 1) s.size).size - 1)) = ((chrs s).take (s.size - 1)).drop (p + 1) := by
        rw [chrs_extract, chrs_extract, List.drop_zero, show (chrs s).take s.size = chrs s from List.take_of_length_le (by rw [chrs_length]; omega), hsz, List.drop_take]
        congr 1; omega
      have hl2 : (((chrs s).take (s.size - 1)).drop (p + 1)).length = s.size - 1 - (p + 1) := by rw [List.length_drop, List.length_take, chrs_length]; omega
      have hP2 : parse (chrs s) = match bitsL ((chrs s).take p), bitsL (((chrs s).take (s.size - 1)).drop (p + 1)) with
          | some a, some b => if p + 2 < s.size ∧ (a.length ≤ 60 ∧ b.length ≤ 60) then some (a, b) else none
          | _, _ => none := by
        rw [hP]
        by_cases h5 : p + 2 < s.size
        · rw [if_pos ⟨h5, h3⟩]
          split <;> simp_all
        · rw [if_neg (by rintro ⟨x, _⟩; exact h5 x)]
          split
          · rw [if_neg (by rintro ⟨x, _⟩; exact h5 x)]
          · rfl
      refine fin _ _ _ _ _ h1 h2 hA (by simp; omega) ?_ ?_
      · rw [hc1, hc2, hP2]
        unfold setFin sgns
        cases b1 : bitsL ((chrs s).take p) with
        | none => simp
        | some a =>
          cases b2 : bitsL (((chrs s).take (s.size - 1)).drop (p + 1)) with
          | none => simp
          | some b =>
            have hbl := bitsL_length b2
            rw [hl2] at hbl
            have hb0 : decide (0 < b.length) = decide (p + 2 < s.size) := by apply decide_eq_decide.2; omega
            simp only [hb0]
            by_cases la : a.length ≤ 60 <;> by_cases lb : b.length ≤ 60 <;> by_cases h5 : p + 2 < s.size <;> simp [la, lb, h5]
      · rw [hc1, hc2, hP2]
        unfold sgns
        intro a' b' hab
        cases b1 : bitsL ((chrs s).take p) with
        | none => rw [b1] at hab; cases hab
        | some a =>
          cases b2 : bitsL (((chrs s).take (s.size - 1)).drop (p + 1)) with
          | none => rw [b1, b2] at hab; cases hab
          | some b =>
            rw [b1, b2] at hab
            simp only at hab
            split at hab
            · simp only [Option.some.injEq, Prod.mk.injEq] at hab; exact hab
            · cases hab
    · rw [if_neg h3] at h2
      have hPn : parse (chrs s) = none := by
        rw [hP, if_neg]
        rintro ⟨x, y⟩
        exact h3 (by rw [if_pos (by omega)]; exact y)
      refine fin _ _ _ _ _ h1 h2 hA (by simp) ?_ ?_
      · rw [hPn]; simp [setFin]
      · intro a b hab; rw [hPn] at hab; cases hab
  · rw [if_neg h] at h1
    have hPn : parse (chrs s) = none := by
      unfold parse; rw [chrs_length, if_neg]; rintro ⟨x, _⟩; omega
    have h2 := suffix_f (⟨#[]⟩ : ByteArray) 41 (by decide)
    rw [if_neg (by rw [byteArray_empty_chrs]; simp)] at h2
    refine fin _ _ _ _ _ h1 h2 (Nat.le_refl _) (by show 0 ≤ _; omega) ?_ ?_
    · rw [hPn]; simp [setFin]
    · intro a b hab; rw [hPn] at hab; cases hab

end Go.Proofs.Ytneadgionjlicaa.P

-- impl.set.text writes the text of a set.
namespace Go.Proofs.Ytneadgionjlicaa.P
open Go.RowKit Go.Proofs.YtneadgionjlicaaW.PrintWords Go.Proofs.YtneadgionjlicaaW.PrintLast Go.Proofs.YtneadgionjlicaaW.PrintMore
set_option linter.unusedVariables false
set_option linter.unusedSimpArgs false

theorem told_f (l : List Bool) (h : l.length ≤ 70368744177664) : impl_told.f l = some ⟨(l.map sgn).toArray⟩ := by unfold impl_told.f; rw [if_pos h]
theorem text_f (t r : List Bool) (hl : t.length + r.length ≤ 70368744177664) : Ev (fun k => impl_set_text.f k t r) (txt (t, r)) := by
  have hj : ∀ b : Bool, (b = true ↔ ¬ (t.length ≤ 60 ∧ r.length ≤ 60)) → Ev (fun k => impl_set_text.j0 k b t r) (txt (t, r)) := by
    intro b hb
    cases b with
    | true =>
      refine Ev.step (f := fun k => some ((⟨#[]⟩ : ByteArray), false)) (fun k => ?_) ?_
      · simp only [impl_set_text.j0]; rw [if_pos trivial]
      · unfold txt; rw [if_neg (hb.1 rfl)]; exact Ev.now _
    | false =>
      have hb2 : t.length ≤ 60 ∧ r.length ≤ 60 := Classical.byContradiction fun h => absurd (hb.2 h) (by decide)
      have e1 : (⟨(t.map sgn).toArray⟩ : ByteArray).size = t.length := by show (t.map sgn).toArray.size = _; simp
      have e2 : (⟨(r.map sgn).toArray⟩ : ByteArray).size = r.length := by show (r.map sgn).toArray.size = _; simp
      refine Ev.step (f := fun k => some (textOf t r, true)) (fun k => ?_) ?_
      · simp only [impl_set_text.j0]
        rw [if_neg (by decide), told_f t (by omega)]
        simp only [Option.bind_some]
        rw [if_pos (by omega), told_f r (by omega)]
        simp only [Option.bind_some]
        rw [if_pos (by omega), if_pos (by omega)]
        congr 2
      · rw [txt_ok hb2.1 hb2.2]; exact Ev.now _
  unfold impl_set_text.f
  by_cases h : t.length ≤ 60
  · have h1 := hj (decide ((r.length : Int) > 60)) (by rw [decide_eq_true_iff]; omega)
    refine Ev.congr (fun k => ?_) h1
    rw [if_neg (by omega)]
  · have h1 := hj true (by simp; intro h2; omega)
    refine Ev.congr (fun k => ?_) h1
    rw [if_pos (by omega)]

end Go.Proofs.Ytneadgionjlicaa.P

-- impl.turns and tidy come to the tidy form.
namespace Go.Proofs.Ytneadgionjlicaa.P
open Go.RowKit Go.Proofs.YtneadgionjlicaaW.PrintWords Go.Proofs.YtneadgionjlicaaW.PrintLast Go.Proofs.YtneadgionjlicaaW.PrintMore
set_option linter.unusedVariables false
set_option linter.unusedSimpArgs false
theorem turns_l0 (r : List Bool) (d : Nat) (hd : 0 < d) (hdl : d ≤ r.length) (hl : r.length ≤ 70368744177664) : ∀ (m i : Nat), i ≤ r.length → r.length - i = m →
    (∀ j, j < i → r.getD j false = r.getD (j % d) false) → ∃ b, Ev (fun k => impl_turns.l0 k r d r.length i) b ∧ (b = true ↔ IsPer r d) := by
  intro m
  induction m with
  | zero =>
    intro i h1 h2 h3
    have e : i = r.length := by omega
    refine ⟨((r.length : Int) % (d : Int)) == 0, Ev.step (f := fun k => some (((r.length : Int) % (d : Int)) == 0)) (fun k => ?_) (Ev.now _), ?_⟩
    · simp only [impl_turns.l0]; rw [if_neg (by omega), if_neg (by omega)]
    · have hm : (r.length : Int) % (d : Int) = ((r.length % d : Nat) : Int) := rfl
      rw [beq_iff_eq, hm]
      constructor
      · intro h; exact IsPer.of_mod (by omega) hd (fun j hj => h3 j (by omega))
      · intro h; have := h.1; omega
  | succ m ih =>
    intro i h1 h2 h3
    have hmod : Int.tmod (i : Int) (d : Int) = ((i % d : Nat) : Int) := by rw [Int.tmod_eq_emod_of_nonneg (by omega)]; rfl
    have hml := Nat.mod_lt i hd
    have hw : wrap64 ((i : Int) + 1) = ((i + 1 : Nat) : Int) := by rw [w64 (by omega) (by omega)]; omega
    by_cases he : r.getD i false = r.getD (i % d) false
    · obtain ⟨b, hb, hbi⟩ := ih (i + 1) (by omega) (by omega) (fun j hj => by
        rcases Nat.lt_or_ge j i with h | h
        · exact h3 j h
        · have : j = i := by omega
          subst this; exact he)
      refine ⟨b, Ev.step (fun k => ?_) hb, hbi⟩
      simp only [impl_turns.l0]
      rw [if_pos (by omega), if_pos (by omega), if_pos (by omega), if_neg (by omega), hmod, if_pos (by omega), if_pos (by omega), rdOf_nat, rdOf_nat, if_neg (by rw [he]; simp), hw]
    · refine ⟨false, Ev.step (f := fun k => some false) (fun k => ?_) (Ev.now _), ?_⟩
      · simp only [impl_turns.l0]
        rw [if_pos (by omega), if_pos (by omega), if_pos (by omega), if_neg (by omega), hmod, if_pos (by omega), if_pos (by omega), rdOf_nat, rdOf_nat, if_pos (by rw [bne_iff_ne]; exact he)]
      · constructor
        · intro h; exact absurd h (by decide)
        · intro h; exact absurd (h.mod hd i (by omega)) he
theorem turns_f (r : List Bool) (d : Nat) (hd : 0 < d) (hdl : d ≤ r.length) (hl : r.length ≤ 70368744177664) : ∃ b, Ev (fun k => impl_turns.f k r d) b ∧ (b = true ↔ IsPer r d) := by
  obtain ⟨b, h, hb⟩ := turns_l0 r d hd hdl hl _ 0 (by omega) rfl (fun j hj => by omega)
  exact ⟨b, by simpa [impl_turns.f] using h, hb⟩
theorem clone_f (l : List Bool) (h : l.length ≤ 70368744177664) : slices_Clone_bool_bool.f l = some l := by unfold slices_Clone_bool_bool.f; rw [if_pos h]

theorem tidy_l1 : ∀ (n : Nat) (t r : List Bool), t.length = n → Prim r → t.length + r.length ≤ 70368744177664 → ∃ t' r', Ev (fun k => impl_set_tidy.l1 k r.length t r) (t', r') ∧ Tidy t r t' r' := by
  intro n
  induction n with
  | zero =>
    intro t r hn hp hl
    have ht : t = [] := List.eq_nil_of_length_eq_zero hn
    subst ht
    refine ⟨[], r, Ev.step (f := fun k => some (([] : List Bool), r)) (fun k => ?_) (Ev.now _), ⟨hp, .inl rfl⟩, fun _ => rfl, Nat.le_refl _, Nat.le_refl _⟩
    simp only [impl_set_tidy.l1]; rw [if_neg (by simp)]
  | succ n ih =>
    intro t r hn hp hl
    have hr := hp.1
    have hpos := List.length_pos_iff.2 hr
    have ht : t ≠ [] := by intro e; rw [e] at hn; simp at hn
    have w1 : wrap64 ((t.length : Int) - 1) = ((t.length - 1 : Nat) : Int) := by rw [w64 (by omega) (by omega)]; omega
    have w2 : wrap64 ((r.length : Int) - 1) = ((r.length - 1 : Nat) : Int) := by rw [w64 (by omega) (by omega)]; omega
    by_cases he : t.getD (t.length - 1) false = r.getD (r.length - 1) false
    · obtain ⟨t', r', hev, htd⟩ := ih (t.take (t.length - 1)) (rotR r) (by rw [List.length_take]; omega) (prim_rot hp) (by rw [rotR_length hr, List.length_take]; omega)
      rw [rotR_length hr] at hev
      refine ⟨t', r', Ev.step (fun k => ?_) hev, htd.canon, fun x => by rw [htd.has, rot_has ht hr he], by have := htd.tl; rw [List.length_take] at this; omega, by have := htd.rl; rw [rotR_length hr] at this; omega⟩
      simp only [impl_set_tidy.l1]
      rw [if_pos (by omega), w1, w2, if_pos (by omega), if_pos (by omega), if_pos (by omega), if_pos (by omega), rdOf_nat, rdOf_nat, if_pos (by rw [he]; exact beq_self_eq_true _), if_pos (by omega)]
      simp only [Option.bind_some]
      rw [if_pos (by omega)]
      simp only [Int.toNat_natCast]
      rw [if_pos (by simp; omega)]
      rfl
    · refine ⟨t, r, Ev.step (f := fun k => some (t, r)) (fun k => ?_) (Ev.now _), ⟨hp, .inr he⟩, fun _ => rfl, Nat.le_refl _, Nat.le_refl _⟩
      simp only [impl_set_tidy.l1]
      rw [if_pos (by omega), w1, w2, if_pos (by omega), if_pos (by omega), if_pos (by omega), if_pos (by omega), rdOf_nat, rdOf_nat, if_neg (by rw [beq_iff_eq]; exact he)]

theorem tidy_l0 (t r : List Bool) (hr : r ≠ []) (hl : t.length + r.length ≤ 70368744177664) : ∀ (m d : Nat), 0 < d → d ≤ r.length → r.length - d = m → (∀ d', 0 < d' → d' < d → ¬ IsPer r d') →
    ∃ t' r', Ev (fun k => impl_set_tidy.l0 k d t r) (t', r') ∧ Tidy t r t' r' := by
  have hpos := List.length_pos_iff.2 hr
  have hn : IsPer r r.length := ⟨Nat.mod_self _, fun i a b => by omega⟩
  intro m
  induction m with
  | zero =>
    intro d h0 h1 h2 h3
    have e : d = r.length := by omega
    obtain ⟨b, hb, hbi⟩ := turns_f r d h0 h1 (by omega)
    have hbt : b = true := hbi.2 (by rw [e]; exact hn)
    have hp : IsPer r d := hbi.1 hbt
    subst hbt
    have hlt : (r.take d).length = d := by rw [List.length_take]; omega
    obtain ⟨t', r', hev, htd⟩ := tidy_l1 _ t (r.take d) rfl (prim_take h0 h1 hp h3) (by omega)
    rw [hlt] at hev
    refine ⟨t', r', Ev.step (f := fun k => (impl_turns.f k r d).bind fun t161 => (if t161 = true then impl_set_tidy.l1 k d t (r.take d) else (impl_set_tidy.l0 k (wrap64 (d + 1)) t r))) (fun k => ?_) (Ev.bind hb (by simpa using hev)), htd.canon, fun x => by rw [htd.has, take_has hp h0 h1], htd.tl, by have := htd.rl; omega⟩
    simp only [impl_set_tidy.l0]
    congr 1; funext x
    rw [clone_f _ (by omega)]
    simp only [Option.bind_some, Int.toNat_natCast]
    cases x with
    | true => rw [if_pos rfl, if_pos rfl, if_pos (by omega), if_pos (by omega), clone_f _ (by rw [hlt]; omega)]; rfl
    | false => rw [if_neg (by decide), if_neg (by decide)]
  | succ m ih =>
    intro d h0 h1 h2 h3
    obtain ⟨b, hb, hbi⟩ := turns_f r d h0 h1 (by omega)
    have hw : wrap64 ((d : Int) + 1) = ((d + 1 : Nat) : Int) := by rw [w64 (by omega) (by omega)]; omega
    have hlt : (r.take d).length = d := by rw [List.length_take]; omega
    have st : ∀ k, impl_set_tidy.l0 (k + 1) d t r = (impl_turns.f k r d).bind fun t161 => (if t161 = true then impl_set_tidy.l1 k d t (r.take d) else (impl_set_tidy.l0 k ((d + 1 : Nat) : Int) t r)) := fun k => by
      simp only [impl_set_tidy.l0]
      congr 1; funext x
      rw [clone_f _ (by omega)]
      simp only [Option.bind_some, Int.toNat_natCast]
      cases x with
      | true => rw [if_pos rfl, if_pos rfl, if_pos (by omega), if_pos (by omega), clone_f _ (by rw [hlt]; omega)]; rfl
      | false => rw [if_neg (by decide), if_neg (by decide), hw]
    by_cases hp : IsPer r d
    · have hbt := hbi.2 hp
      subst hbt
      obtain ⟨t', r', hev, htd⟩ := tidy_l1 _ t (r.take d) rfl (prim_take h0 h1 hp h3) (by omega)
      rw [hlt] at hev
      exact ⟨t', r', Ev.step st (Ev.bind hb (by simpa using hev)), htd.canon, fun x => by rw [htd.has, take_has hp h0 h1], htd.tl, by have := htd.rl; omega⟩
    · have hbt : b = false := by cases b; rfl; exact absurd (hbi.1 rfl) hp
      subst hbt
      obtain ⟨t', r', hev, htd⟩ := ih (d + 1) (by omega) (by omega) (by omega) (fun d' a b => by
            rcases Nat.lt_or_ge d' d with h | h
            · exact h3 d' a h
            · have : d' = d := by omega
              subst this; exact hp)
      exact ⟨t', r', Ev.step st (Ev.bind hb (by simpa using hev)), htd⟩
theorem tidy_f (t r : List Bool) (hr : r ≠ []) (hl : t.length + r.length ≤ 70368744177664) : ∃ t' r', Ev (fun k => impl_set_tidy.f k t r) (t', r') ∧ Tidy t r t' r' := by
  have hpos := List.length_pos_iff.2 hr
  obtain ⟨t', r', h, htd⟩ := tidy_l0 t r hr hl _ 1 (by omega) (by omega) rfl (fun d a b => by omega)
  exact ⟨t', r', by simpa [impl_set_tidy.f] using h, htd⟩

theorem tidy_cn (t r : List Bool) (hr : r ≠ []) (hl : t.length + r.length ≤ 70368744177664) : Ev (fun k => impl_set_tidy.f k t r) (cn (hasB t r)) := by
  obtain ⟨t', r', h, ht⟩ := tidy_f t r hr hl
  rw [ht.cn]; exact h

end Go.Proofs.Ytneadgionjlicaa.P

-- impl.made over a question that is answered: the tidy text of the set.
namespace Go.Proofs.Ytneadgionjlicaa.P
open Go.RowKit Go.Proofs.YtneadgionjlicaaW.PrintWords Go.Proofs.YtneadgionjlicaaW.PrintLast Go.Proofs.YtneadgionjlicaaW.PrintMore
set_option linter.unusedVariables false
set_option linter.unusedSimpArgs false

theorem made_calls (q : Nat → Bool) (m p : Nat) (hp : 0 < p) (hper : Per q m p) (hl : m + p ≤ 1000000) (g : Nat) (lb : Array Value) (w : World)
    (eg : ∀ args w, (callFunc g args).run Try.prog w = .ok (.enter g args) w)
    (hc : ∀ (W : World) (i : Nat), Below w.heap.size w W → i < m + p → Calls Try.prog g (#[.int .i64 i] ++ lb) W fun e w' => e = .returned (.bool (q i)) ∧ Below W.heap.size W w') :
    Calls Try.prog 44 #[.int .i64 m, .int .i64 p, .func (.func g) #[] lb] w fun e w' => e = .returned (.tuple #[.string (txt (cn q)).1, .bool (txt (cn q)).2]) ∧ Below w.heap.size w w' := by
  have hs := cn_spec hp hper
  have h1 := tidy_cn (mkT q m) (mkR q m p) (mkR_ne q hp) (by rw [mkT_length, mkR_length]; omega)
  rw [mk_has hp hper] at h1
  have h2 := text_f (cn q).1 (cn q).2 (by omega)
  obtain ⟨k, hk⟩ := (Ev.bind (f := fun k y => impl_set_text.f k y.1 y.2) h1 h2).rounds
  have := impl_made.calls k (mkT q m) (mkR q m p) (txt (cn q)).1 (txt (cn q)).2 g lb w eg (fun W i hW hi => ?_) (by rw [mkT_length, mkR_length]; omega) hk
  · rw [mkT_length, mkR_length] at this; exact this
  · rw [mkT_length, mkR_length] at hi
    rw [← mkT_add, mkT_get q hi]; exact hc W i hW hi

end Go.Proofs.Ytneadgionjlicaa.P

-- impl.MachSet: the set of the numbers that a machine takes.
namespace Go.Proofs.Ytneadgionjlicaa.P
open Go.RowKit Go.Proofs.YtneadgionjlicaaW.PrintWords Go.Proofs.YtneadgionjlicaaW.PrintLast Go.Proofs.YtneadgionjlicaaW.PrintMore
set_option linter.unusedVariables false
set_option linter.unusedSimpArgs false

/-- What impl.MachSet answers. -/
noncomputable def msr (l : List Int) (st en : Int) : ByteArray × Bool := if mok l st en = true then txt (cn (mq l st en)) else (⟨#[]⟩, false)
noncomputable def impl_MachSet.f (l : List Int) (st en : Int) : Option (ByteArray × Bool) := if l.length ≤ 1000000000000 then some (msr l st en) else none
theorem machSet_f {l : List Int} (h : l.length ≤ 1000000000000) (st en : Int) : impl_MachSet.f l st en = some (msr l st en) := by unfold impl_MachSet.f; rw [if_pos h]
theorem mall_pow {n : Nat} (h : 1 ≤ n ∧ n ≤ 5) : mall n = ((2 ^ n : Nat) : Int) - 1 := by
  rcases (show n = 1 ∨ n = 2 ∨ n = 3 ∨ n = 4 ∨ n = 5 by omega) with h | h | h | h | h <;> rw [h] <;> decide
/-- What a machine that is one has. -/
theorem mok_of {l : List Int} {st en : Int} (h : mok l st en = true) : (1 ≤ l.length ∧ l.length ≤ 5) ∧ Stt l l.length ∧ (∃ v : Nat, st = (v : Int) ∧ v < 2 ^ l.length) ∧ ∃ v : Nat, en = (v : Int) ∧ v < 2 ^ l.length := by
  unfold mok at h
  rw [Bool.and_eq_true, Bool.and_eq_true, Bool.and_eq_true, decide_eq_true_iff, decide_eq_true_iff, decide_eq_true_iff] at h
  obtain ⟨h1, h2, h3, h4⟩ := h
  have hm := mall_pow h1
  refine ⟨h1, fun i hi => ?_, ?_, ?_⟩
  · have h5 : 0 ≤ rd l (i : Int) ∧ rd l (i : Int) ≤ mall l.length := by
      by_cases h5 : 0 ≤ rd l (i : Int) ∧ rd l (i : Int) ≤ mall l.length
      · exact h5
      · have : anyI l (fun x => !decide (0 ≤ x ∧ x ≤ mall l.length)) = true := by
          unfold anyI
          exact dec_true ⟨i, hi, by show (!decide (0 ≤ rd l (i : Int) ∧ rd l (i : Int) ≤ mall l.length)) = true; rw [decide_eq_false h5]; rfl⟩
        rw [this] at h2; cases h2
    obtain ⟨v, hv⟩ := Int.eq_ofNat_of_zero_le h5.1
    exact ⟨v, hv, by omega⟩
  · obtain ⟨v, hv⟩ := Int.eq_ofNat_of_zero_le h3.1
    exact ⟨v, hv, by omega⟩
  · obtain ⟨v, hv⟩ := Int.eq_ofNat_of_zero_le h4.1
    exact ⟨v, hv, by omega⟩
theorem mok_shape {l : List Int} {st en : Int} (h : mok l st en = true) : ∃ T F, Shape l st T F ∧ T ≤ 32 := by
  obtain ⟨h1, h2, h3, _⟩ := mok_of h
  obtain ⟨T, F, h4, h5⟩ := shape_of (by omega) h2 h3
  have : 2 ^ l.length ≤ 2 ^ 5 := Nat.pow_le_pow_right (by omega) h1.2
  exact ⟨T, F, h4, by omega⟩

set_option maxHeartbeats 8000000 in
set_option maxRecDepth 100000 in
theorem machSet1_calls (l : List Int) (st en : Int) (T n : Nat) (hn : n < T) (A : Option Addr) (c gl gm : Nat) (W : World)
    (hl : W.cell? ⟨gl, 0, none⟩ = some (.slice A T c)) (hC : Kd.C (Kd.int .i64) W A (orbs l st T).length (orbs l st T)) (hm : W.cell? ⟨gm, 2, none⟩ = some (.int .i64 en)) :
    Calls Try.prog 45 #[.int .i64 n, .pointer (some ⟨gl, 0, none⟩), .pointer (some ⟨gm, 0, none⟩)] W fun e w' => e = .returned (.bool (mq l st en n)) ∧ Below W.heap.size W w' := by
  have hu := Try.underlying31
  have p1 : (0 : Int) ≤ (n : Int) := by omega
  have q0 : (n : Int) < ((orbs l st T).length : Int) := by rw [orbs_length]; omega
  have q1 : (n : Int) < (T : Int) := by omega
  obtain ⟨ad1, e1, hx1⟩ := Kd.at_int hC (n : Int) p1 q0
  rw [Int.toNat_natCast, orbs_rd l st hn] at hx1
  unfold mq
  generalize orb l st n = x at *
  clear hC q0
  cases e1
  go_enter Try.func45, Try.ntmps45
  go_wp2
  go_quiet (fail)
  all_goals go_wp2
  all_goals go_ret
  all_goals exact ⟨by first | rfl | simp, pw_below_drewN (Below.refl _ _) _⟩

set_option maxHeartbeats 16000000 in
set_option maxRecDepth 100000 in
theorem impl_MachSet.calls (A : Option Addr) (c : Nat) (l : List Int) (st en : Int) (r1 : ByteArray) (r2 : Bool) (w : World) (hC : Kd.C (Kd.int .i64) w A l.length l) (hc : l.length ≤ c) (h : impl_MachSet.f l st en = some (r1, r2)) :
    Calls Try.prog 18 #[.agg #[.slice A l.length c, .int .i64 st, .int .i64 en]] w fun e w' => e = .returned (.tuple #[.string r1, .bool r2]) ∧ Below w.heap.size w w' := by
  unfold impl_MachSet.f at h
  split at h
  rotate_left
  · cases h
  rename_i hbig
  simp only [Option.some.injEq] at h
  have hR : r1 = (msr l st en).1 ∧ r2 = (msr l st en).2 := by rw [h]; exact ⟨rfl, rfl⟩
  obtain ⟨rfl, rfl⟩ := hR
  clear h
  have hu := Try.underlying31
  have hin := machIn_f hbig st en
  have HC := Aside0.mk hC
  have HMI := fun (w' : World) (hC' : Kd.C (Kd.int .i64) w' A l.length l) => impl_MachIn.calls A c l st en (mok l st en) w' hC' hc hin
  cases hm : mok l st en with
  | false =>
    have e : msr l st en = (⟨#[]⟩, false) := by unfold msr; rw [hm]; rfl
    rw [e]
    rw [hm] at HMI
    have HMA := Aside0.mk HMI
    clear HMI hm e hin hC hbig hc
    go_enter Try.func18, Try.ntmps18
    go_wp2_with (go_at_call 40; with_reducible refine (HMA.out _ (Kd.C_below HC.out (below_alloc (Below.refl w.heap.size w) _))).mono ?_; rintro e w1 ⟨rfl, hd⟩; have HB := Aside0.mk (below_step (below_alloc (Below.refl w.heap.size w) _) hd); clear hd)
    go_ret2
    exact ⟨rfl, HB.out⟩
  | true =>
    have e : msr l st en = txt (cn (mq l st en)) := by unfold msr; rw [hm]; rfl
    rw [e]
    rw [hm] at HMI
    obtain ⟨T, F, hsh, hT⟩ := mok_shape hm
    have hlt := hsh.lt
    have hl5 := (mok_of hm).1
    have HMA := Aside0.mk HMI
    have hcN : ∀ i, i < T → ∃ k, slices_Contains_int_int.f k (orbs l st i) (orb l st i) = some false := fun i hi =>
      (cont_no (orbs l st i) (by rw [orbs_length]; omega) (orb l st i) (fun j hj => by rw [orbs_length] at hj; rw [orbs_rd l st hj]; exact hsh.new j i hj hi)).rounds
    have hfind : F < (orbs l st T).length ∧ rd (orbs l st T) (F : Int) = orb l st T ∧ ∀ j : Nat, j < F → rd (orbs l st T) (j : Int) ≠ orb l st T := by
      refine ⟨by rw [orbs_length]; exact hlt, by rw [orbs_rd l st hlt]; exact hsh.same.symm, fun j hj => ?_⟩
      rw [orbs_rd l st (by omega), hsh.same]; exact hsh.new j F hj hlt
    have hcY : ∃ k, slices_Contains_int_int.f k (orbs l st T) (orb l st T) = some true := (cont_yes (orbs l st T) (by rw [orbs_length]; omega) (orb l st T) F hfind.1 hfind.2.1 hfind.2.2).rounds
    have hcI : ∃ k, slices_Index_int_int.f k (orbs l st T) (orb l st T) = some (F : Int) := (index_at (orbs l st T) (by rw [orbs_length]; omega) (orb l st T) F hfind.1 hfind.2.1 hfind.2.2).rounds
    have hnx : ∀ x, ∃ k, impl_Machine_next.f k l st en x = some (nxt l x) := fun x => (next_f l (by omega) st en x).rounds
    have hsub : IntKind.i64.wrap ((T : Int) - (F : Int)) = ((T - F : Nat) : Int) := by rw [IntKind.wrap_i64]; omega
    have eg : ∀ args w, (callFunc 45 args).run Try.prog w = .ok (.enter 45 args) w := enters_of Try.func45 (by kernel_rfl) rfl
    have HM := fun (lb : Array Value) (w : World) => Aside0.mk (made_calls (mq l st en) F (T - F) (by omega) (hsh.per en) (by omega) 45 lb w eg)
    have HCN := Aside0.mk hcN
    have HCY := Aside0.mk hcY
    have HCI := Aside0.mk hcI
    have HNX := Aside0.mk hnx
    have HTT := Aside0.mk hT
    have HLT := Aside0.mk hlt
    have HCC := Aside0.mk hc
    clear HMI hm e hin hC hbig hc hcN hcY hcI hnx hfind hsh hT hlt hl5 eg
    go_enter Try.func18, Try.ntmps18
    go_wp2_with (go_at_call 40; with_reducible refine (HMA.out _ (Kd.C_below HC.out (below_alloc (Below.refl w.heap.size w) _))).mono ?_; rintro e w1 ⟨rfl, hd⟩; have HB1 := Aside0.mk (below_step (below_alloc (Below.refl w.heap.size w) _) hd); have BM := Aside0.mk (blk_below (blk_new w (.cells #[.slice A l.length c, .int .i64 st, .int .i64 en] 31 (0, 0))) hd); have m0 : w1.cell? ⟨w.heap.size, 0, none⟩ = some (.slice A l.length c) := (blk_cell BM.out 0).trans rfl; have m1 : w1.cell? ⟨w.heap.size, 1, none⟩ = some (.int .i64 st) := (blk_cell BM.out 1).trans rfl; have m2 : w1.cell? ⟨w.heap.size, 2, none⟩ = some (.int .i64 en) := (blk_cell BM.out 2).trans rfl; have l1 : w.heap.size < w1.heap.size := blk_lt BM.out; clear hd)
    go_loopg [5] T (fun gg s5 wr => ∃ i : Nat, i ≤ T ∧ T - i ≤ gg ∧ s5 = .int .i64 (orb l st i) ∧ Aside0 (Below w.heap.size w wr) ∧ Aside0 (wr.heap[w.heap.size]? = some (.cells #[.slice A l.length c, .int .i64 st, .int .i64 en] 31 (0, 0))) ∧ ∃ A1 c1, Aside0 (wr.heap[w1.heap.size]? = some (.cells #[.slice A1 i c1] 29 (0, 0))) ∧ Aside0 (Kd.R (Kd.int .i64) 3 wr w.heap.size (fun k => k ≠ w1.heap.size ∧ k ≠ w.heap.size) (.slice A1 i c1) (orbs l st i)) ∧ Aside0 (i ≤ c1))
    case atStart => exact ⟨0, Nat.zero_le _, by omega, rfl, ⟨below_alloc HB1.out _⟩, ⟨blk_alloc BM.out _⟩, none, 0, ⟨blk_new _ _⟩, ⟨Kd.R_nil _ _ _ _ _⟩, ⟨Nat.le_refl _⟩⟩
    case round =>
      obtain ⟨i, hi, hgg, rfl, HB, BMr, A1, c1, BL, HR, HK1⟩ := hrel
      have f0 : wr.cell? ⟨w1.heap.size, 0, none⟩ = some (.slice A1 i c1) := (blk_cell BL.out 0).trans rfl
      have hRr := Kd.R_reads' HR.out
      have hCR0 := hRr.2.2
      rw [orbs_length] at hCR0
      have hCR := Aside0.mk hCR0
      clear hRr hCR0
      rcases Nat.lt_or_ge i T with hlt | hge
      · obtain ⟨k1, hk1⟩ := HCN.out i hlt
        obtain ⟨k2, hk2⟩ := HNX.out (orb l st i)
        have HCont := Aside0.mk (fun (w' : World) (hC' : Kd.C (Kd.int .i64) w' A1 (orbs l st i).length (orbs l st i)) => slices_Contains_int_int.calls k1 A1 c1 (orbs l st i) (orb l st i) false w' hC' (by rw [orbs_length]; exact HK1.out) hk1)
        have HNxt := Aside0.mk (fun (w' : World) (hC' : Kd.C (Kd.int .i64) w' A l.length l) => impl_Machine_next.calls k2 A c l st en (orb l st i) (nxt l (orb l st i)) w' hC' HCC.out hk2)
        have hs1 : orb l st (i + 1) = nxt l (orb l st i) := rfl
        have HS1 := Aside0.mk hs1
        have HXS := Aside0.mk (orbs_succ l st i)
        rw [orbs_length] at HCont
        generalize orb l st i = x at *
        clear hk1 hk2 hs1
        go_wp2_with (first
          | (go_at_call 41; go_loud (refine (HCont.out _ hCR.out).mono ?_; rintro e w2 ⟨rfl, hd⟩; have hb := drawn0_below hd; have HB2 := Aside0.mk (below_step HB.out hb); have BM2 := Aside0.mk (blk_below BMr.out hb); have BL2 := Aside0.mk (blk_below BL.out hb); have HR2 := Aside0.mk (Kd.R_below HR.out hb); have f2 : w2.cell? ⟨w1.heap.size, 0, none⟩ = some (.slice A1 i c1) := (blk_cell BL2.out 0).trans rfl; clear hd hb))
          | ((with_reducible refine gate_builtin (b := .append) (xs := #[.tmp 17, .tmp 19]) rfl ?_); at_builtin; go_loud (refine Kd.R_append (Kd.int .i64) (w0 := w) w.heap.size rfl (.tmp 17) (.tmp 19) 29 3 (.int .i64 0) 8 rfl Try.underlying29 info3 rfl (by decide) (by omega) (.slice A1 i c1) (orbs l st i) x [.int .i64 x] (fun k => k ≠ w1.heap.size ∧ k ≠ w.heap.size) (fun _ => False) rfl rfl ?aP (fun _ hk => hk.elim) ?aF HR2.out HB2.out ?aS ?aL ?_; (case aP => exact rfl); (case aF => exact fun k hk => ⟨by have := blk_lt BL2.out; omega, by have := blk_lt BM2.out; omega⟩); (case aS => exact HB2.out.size); (case aL => have := HTT.out; rw [orbs_length]; omega); intro v1 w3 ho hb hg hat; rw [← HXS.out] at ho; obtain ⟨A2, c2, hv⟩ := Kd.R_slice ho; rw [orbs_length] at hv; subst hv; have BM3 := Aside0.mk (blk_grown BM2.out hg (Kd.R_away HR2.out (fun k hk => hk.2))); have BL3 := Aside0.mk (blk_grown BL2.out hg (Kd.R_away HR2.out (fun k hk => hk.1))); have f3 : w3.cell? ⟨w1.heap.size, 0, none⟩ = some (.slice A1 i c1) := (blk_cell BL3.out 0).trans rfl; have z3 : w3.frozen? ⟨w1.heap.size, 0, none⟩ = false := blk_frozen BL3.out 0; have hne : w.heap.size ≠ w1.heap.size := Nat.ne_of_lt l1; have BM4 := Aside0.mk (blk_far BM3.out (p := ⟨w1.heap.size, 0, none⟩) hne (.slice A2 (i + 1) c2)); have BL4 := Aside0.mk (blk_put BL3.out 0 (.slice A2 (i + 1) c2) rfl); have HR4 := Aside0.mk (Kd.R_far ho (p := ⟨w1.heap.size, 0, none⟩) (fun k hk => hk.1) (.slice A2 (i + 1) c2)); have HB4 := Aside0.mk (below_set (g := w1.heap.size) (j := 0) (v := .slice A2 (i + 1) c2) hb (Nat.le_of_lt l1)); have k4 : i + 1 ≤ c2 := by { have h9 := (Kd.R_reads' ho).2.1; exact h9 }; have K4 := Aside0.mk k4; have n0 : (w3.setCell ⟨w1.heap.size, 0, none⟩ (.slice A2 (i + 1) c2)).cell? ⟨w.heap.size, 0, none⟩ = some (.slice A l.length c) := (blk_cell BM4.out 0).trans rfl; have n1 : (w3.setCell ⟨w1.heap.size, 0, none⟩ (.slice A2 (i + 1) c2)).cell? ⟨w.heap.size, 1, none⟩ = some (.int .i64 st) := (blk_cell BM4.out 1).trans rfl; have n2 : (w3.setCell ⟨w1.heap.size, 0, none⟩ (.slice A2 (i + 1) c2)).cell? ⟨w.heap.size, 2, none⟩ = some (.int .i64 en) := (blk_cell BM4.out 2).trans rfl; clear ho hb hg hat k4 hne))
          | (go_at_call 42; go_loud (refine (HNxt.out _ (Kd.C_below HC.out HB4.out)).mono ?_; rintro e w5 ⟨rfl, hb5⟩; have HB5 := Aside0.mk (below_step HB4.out hb5); have BM5 := Aside0.mk (blk_below BM4.out hb5); have BL5 := Aside0.mk (blk_below BL4.out hb5); have HR5 := Aside0.mk (Kd.R_below HR4.out hb5); clear hb5)))
        go_roundg (T - (i + 1))
        case measure => omega
        case rel => exact ⟨i + 1, by omega, by omega, congrArg (Value.int .i64) HS1.out.symm, HB5, BM5, A2, c2, BL5, HR5, K4⟩
      · have e9 : i = T := by omega
        subst e9
        obtain ⟨k1, hk1⟩ := HCY.out
        obtain ⟨k2, hk2⟩ := HCI.out
        have HCont := Aside0.mk (fun (w' : World) (hC' : Kd.C (Kd.int .i64) w' A1 (orbs l st i).length (orbs l st i)) => slices_Contains_int_int.calls k1 A1 c1 (orbs l st i) (orb l st i) true w' hC' (by rw [orbs_length]; exact HK1.out) hk1)
        have HIdx := Aside0.mk (fun (w' : World) (hC' : Kd.C (Kd.int .i64) w' A1 (orbs l st i).length (orbs l st i)) => slices_Index_int_int.calls k2 A1 c1 (orbs l st i) (orb l st i) (F : Int) w' hC' (by rw [orbs_length]; exact HK1.out) hk2)
        have HLN := Aside0.mk (orbs_length l st i)
        rw [orbs_length] at HCont HIdx
        generalize orb l st i = x at *
        clear hk1 hk2
        go_wp2_with (first
          | (go_at_call 41; go_loud (refine (HCont.out _ hCR.out).mono ?_; rintro e w2 ⟨rfl, hd⟩; have hb := drawn0_below hd; have HB2 := Aside0.mk (below_step HB.out hb); have BM2 := Aside0.mk (blk_below BMr.out hb); have BL2 := Aside0.mk (blk_below BL.out hb); have HC2 := Aside0.mk (Kd.C_below hCR.out hb); have f2 : w2.cell? ⟨w1.heap.size, 0, none⟩ = some (.slice A1 i c1) := (blk_cell BL2.out 0).trans rfl; clear hd hb))
          | (go_at_call 43; go_loud (refine (HIdx.out _ HC2.out).mono ?_; rintro e w3 ⟨rfl, hd⟩; have hb := drawn0_below hd; have HB3 := Aside0.mk (below_step HB2.out hb); have BM3 := Aside0.mk (blk_below BM2.out hb); have BL3 := Aside0.mk (blk_below BL2.out hb); have HC3 := Aside0.mk (Kd.C_below HC2.out hb); have f3 : w3.cell? ⟨w1.heap.size, 0, none⟩ = some (.slice A1 i c1) := (blk_cell BL3.out 0).trans rfl; clear hd hb))
          | (go_at_call 44; go_loud (refine ((HM _ _).out ?hc).mono ?_; (case hc =>
                intro W n hW hn
                refine machSet1_calls l st en i n (by have := HLT.out; omega) A1 c1 w1.heap.size w.heap.size W ((hW.cell (p := ⟨w1.heap.size, 0, none⟩) (blk_lt BL3.out)).trans f3) ?_ ((hW.cell (p := ⟨w.heap.size, 2, none⟩) (blk_lt BM3.out)).trans ((blk_cell BM3.out 2).trans rfl))
                rw [HLN.out]
                exact Kd.C_below HC3.out hW); rintro e w4 ⟨rfl, hb4⟩; have HB4 := Aside0.mk (below_step HB3.out hb4); clear hb4)))
        go_ret2
        exact ⟨rfl, HB4.out⟩
end Go.Proofs.Ytneadgionjlicaa.P

-- impl.SetHas; the text of a tidy set, read again.
namespace Go.Proofs.Ytneadgionjlicaa.P
open Go.RowKit Go.Proofs.YtneadgionjlicaaW.PrintWords Go.Proofs.YtneadgionjlicaaW.PrintLast Go.Proofs.YtneadgionjlicaaW.PrintMore
set_option linter.unusedVariables false
set_option linter.unusedSimpArgs false

theorem isetHas_f (s : ByteArray) (hs : s.size ≤ 70368744177664) (n : Nat) (hn : n ≤ 1000000) : Ev (fun k => impl_SetHas.f k s n) (setf (chrs s) n) := by
  obtain ⟨x, y, hev, hxy⟩ := setOf_f s hs
  refine Ev.congr (fun k => rfl) (Ev.bind hev ?_)
  cases h : parse (chrs s) with
  | none => simp only [Option.isSome_none, Bool.false_eq_true, if_false, setf, h]; exact Ev.now _
  | some ab =>
    obtain ⟨rfl, rfl⟩ := hxy ab.1 ab.2 h
    have hb := parse_some (a := ab.1) (b := ab.2) h
    rw [setf_some (a := ab.1) (b := ab.2) h]
    simp only [Option.isSome_some, if_true, ihas_f ab.1 ab.2 hb.2.2 (by omega) n (by omega), Option.bind_some]
    exact Ev.now _
theorem isetHas_neg (s : ByteArray) (hs : s.size ≤ 70368744177664) (n : Int) (hn : n < 0) : Ev (fun k => impl_SetHas.f k s n) false := by
  obtain ⟨x, y, hev, hxy⟩ := setOf_f s hs
  refine Ev.congr (fun k => rfl) (Ev.bind hev ?_)
  simp only [ihas_neg x y n hn, Option.bind_some]
  cases (parse (chrs s)).isSome with
  | true => exact Ev.now _
  | false => exact Ev.now _
theorem txt_size (p : List Bool × List Bool) : (txt p).1.size ≤ 122 := by
  unfold txt
  split
  · show (textOf p.1 p.2).size ≤ 122; rw [textOf_size]; omega
  · show (0 : Nat) ≤ 122; omega
section
variable {q : Nat → Bool} {m p : Nat}
theorem txt_fits {t : List Bool × List Bool} (h : (txt t).2 = true) : t.1.length ≤ 60 ∧ t.2.length ≤ 60 := by
  unfold txt at h
  split at h
  · assumption
  · cases h
theorem txt_parse (hp : 0 < p) (h : Per q m p) (ht : (txt (cn q)).2 = true) : parse (chrs (txt (cn q)).1) = some ((cn q).1, (cn q).2) := by
  obtain ⟨h1, h2⟩ := txt_fits ht
  rw [txt_ok h1 h2]
  exact parse_cn hp h h1 h2
theorem txt_setf (hp : 0 < p) (h : Per q m p) (ht : (txt (cn q)).2 = true) : setf (chrs (txt (cn q)).1) = q := by
  rw [setf_some (txt_parse hp h ht), cn_has hp h]
theorem txt_tdy (hp : 0 < p) (h : Per q m p) (ht : (txt (cn q)).2 = true) : tdy (chrs (txt (cn q)).1) = ((txt (cn q)).1, true) := by
  obtain ⟨h1, h2⟩ := txt_fits ht
  rw [tdy_some (txt_parse hp h ht), cn_cn hp h, txt_ok h1 h2]
end
end Go.Proofs.Ytneadgionjlicaa.P

-- Words for the laws that ask a text number by number.
namespace Go.Proofs.Ytneadgionjlicaa.P
open Go.RowKit Go.Proofs.YtneadgionjlicaaW.PrintWords Go.Proofs.YtneadgionjlicaaW.PrintLast Go.Proofs.YtneadgionjlicaaW.PrintMore
set_option linter.unusedVariables false
set_option linter.unusedSimpArgs false

theorem ite_ok {c : Bool} {A : ByteArray × Bool} (h : (if c = true then A else (⟨#[]⟩, false)).2 = true) : c = true ∧ A.2 = true := by
  cases c with
  | true => exact ⟨rfl, by simpa using h⟩
  | false => simp at h
theorem bne_no (b : Bool) : ¬ ((b != b) = true) := by cases b <;> decide
theorem down1 {k K : Nat} (h : K + 1 ≤ k) : ∃ j, k = j + 1 ∧ K ≤ j := ⟨k - 1, by omega, by omega⟩
end Go.Proofs.Ytneadgionjlicaa.P
