/- What these laws reach, joined by a program of this session: contracts (written by that program over the kit's print, or by hand) and plain lemmas. -/
import Derived.Test.YtjjnckgdpdelkaaK1
import Derived.Test.YtjjnckgdpdelkaaK2
import Derived.Test.YtjjnckgdpdelkaaK3
-- spec.l6Open and pick: whatever is drawn lies in its range.
namespace Go.Proofs.Ytjjnckgdpdelkaa.P
open Go.RowKit Go.Proofs.YtjjnckgdpdelkaaW.PrintWords Go.Proofs.YtjjnckgdpdelkaaW.PrintLast Go.Proofs.YtjjnckgdpdelkaaW.PrintMore
set_option linter.unusedVariables false
set_option linter.unusedSimpArgs false

theorem bits_xor_nat (a b : Nat) (ha : a < 2 ^ 62) (hb : b < 2 ^ 62) : Go.bits .xor .i64 (a : Int) (b : Int) = ((a ^^^ b : Nat) : Int) := by
  have ha' : a % 2 ^ IntKind.i64.bits = a := Nat.mod_eq_of_lt (by show a < 2 ^ 64; omega)
  have hb' : b % 2 ^ IntKind.i64.bits = b := Nat.mod_eq_of_lt (by show b < 2 ^ 64; omega)
  have hx := Nat.xor_lt_two_pow ha hb
  simp only [Go.bits, BitVec.ofInt_natCast, BitVec.toNat_xor, BitVec.toNat_ofNat, ha', hb']
  rw [IntKind.wrap_i64]
  omega
theorem open_f (l : List Int) : spec_l6Open.f l = some (l.take 2000, 0) := by
  unfold spec_l6Open.f
  by_cases h : (l.length : Int) > 2000
  · rw [if_pos h, if_pos (by omega)]
  · rw [if_neg h, List.take_of_length_le (by omega)]
/-- The code of a draw: bytes, not too many. -/
structure Code (b : List Int) : Prop where
  byte : ∀ x ∈ b, 0 ≤ x ∧ x ≤ 255
  len : b.length ≤ 2000
theorem code_of {l : List Int} (h : ∀ x ∈ l, (Lit.int .u8 x).wf = true) : Code (l.take 2000) := by
  refine ⟨fun x hx => ?_, by rw [List.length_take]; omega⟩
  have := h x (List.mem_of_mem_take hx)
  have h0 : IntKind.u8.min = 0 := rfl
  have h1 : IntKind.u8.max = 255 := rfl
  simp [Lit.wf, h0, h1] at this
  omega
theorem Code.rd {b : List Int} (h : Code b) {i : Nat} (hi : i < b.length) : 0 ≤ Go.Proofs.YtjjnckgdpdelkaaW.PrintWords.rd b (i : Int) ∧ Go.Proofs.YtjjnckgdpdelkaaW.PrintWords.rd b (i : Int) ≤ 255 := by
  have e : Go.Proofs.YtjjnckgdpdelkaaW.PrintWords.rd b (i : Int) = b[i] := by simp [Go.Proofs.YtjjnckgdpdelkaaW.PrintWords.rd, List.getD_eq_getElem?_getD, hi]
  rw [e]; exact h.byte _ (List.getElem_mem hi)
theorem pick_f {b : List Int} (h : Code b) (p n : Nat) (hp : p ≤ 1000000) (hn : 1 ≤ n) (hn2 : n ≤ 1000000) : ∃ v : Nat, v < n ∧ Ev (fun k => spec_l6Rd_pick.f k b p n) ((v : Int), ((p + 1 : Nat) : Int)) := by
  have w1 : wrap64 ((p : Int) + 1) = ((p + 1 : Nat) : Int) := by rw [w64 (by omega) (by omega)]; omega
  have w2 : wrap64 (((p + 1 : Nat) : Int) - 1) = (p : Int) := by rw [w64 (by omega) (by omega)]; omega
  have hlen := h.len
  by_cases h0 : b.length = 0
  · refine ⟨0, by omega, ?_⟩
    have e : ((b.length : Int) == 0) = true := by rw [beq_iff_eq]; omega
    refine Ev.congr (f := fun k => spec_l6Rd_pick.j0 k n true b ((p + 1 : Nat) : Int)) (fun k => ?_) (Ev.step (f := fun k => some (0, ((p + 1 : Nat) : Int))) (fun k => ?_) (Ev.now _))
    · unfold spec_l6Rd_pick.f; rw [if_neg (by omega), e, w1]
    · simp only [spec_l6Rd_pick.j0]; rw [if_pos trivial]
  · have e : ((b.length : Int) == 0) = false := by rw [beq_eq_false_iff_ne]; omega
    have st : ∀ k, spec_l6Rd_pick.f k b p n = spec_l6Rd_pick.j0 k n false b ((p + 1 : Nat) : Int) := fun k => by
      unfold spec_l6Rd_pick.f; rw [if_neg (by omega), e, w1]
    by_cases hlt : p < b.length
    · obtain ⟨v, hv⟩ := Int.eq_ofNat_of_zero_le (h.rd hlt).1
      have hv2 := (h.rd hlt).2
      rw [hv] at hv2
      refine ⟨v % n, Nat.mod_lt _ (by omega), Ev.congr st (Ev.step (f := fun k => some (((v % n : Nat) : Int), ((p + 1 : Nat) : Int))) (fun k => ?_) (Ev.now _))⟩
      simp only [spec_l6Rd_pick.j0]
      rw [if_neg (by decide), w2, if_pos (by omega), if_pos (by omega), if_neg (by omega), hv, w64 (by omega) (by omega), Int.tmod_eq_emod_of_nonneg (by omega)]
      rfl
    · have hpos : 0 < b.length := by omega
      have m1 : Int.tmod (p : Int) (b.length : Int) = ((p % b.length : Nat) : Int) := by rw [Int.tmod_eq_emod_of_nonneg (by omega)]; rfl
      have w3 : wrap64 ((p : Int) * 7) = ((p * 7 : Nat) : Int) := by rw [w64 (by omega) (by omega)]; omega
      have w4 : wrap64 (((p * 7 : Nat) : Int) + 3) = ((p * 7 + 3 : Nat) : Int) := by rw [w64 (by omega) (by omega)]; omega
      have m2 : Int.tmod ((p * 7 + 3 : Nat) : Int) (b.length : Int) = (((p * 7 + 3) % b.length : Nat) : Int) := by rw [Int.tmod_eq_emod_of_nonneg (by omega)]; rfl
      have l1 := Nat.mod_lt p hpos
      have l2 := Nat.mod_lt (p * 7 + 3) hpos
      obtain ⟨v1, hv1⟩ := Int.eq_ofNat_of_zero_le (h.rd l1).1
      obtain ⟨v2, hv2⟩ := Int.eq_ofNat_of_zero_le (h.rd l2).1
      have u1 := (h.rd l1).2
      have u2 := (h.rd l2).2
      rw [hv1] at u1
      rw [hv2] at u2
      have q1 : Int.tdiv (p : Int) (b.length : Int) = ((p / b.length : Nat) : Int) := by rw [Int.tdiv_eq_ediv_of_nonneg (by omega)]; rfl
      have q1l : p / b.length ≤ p := Nat.div_le_self _ _
      generalize p / b.length = qq at q1 q1l
      have s1 : wrap64 (wrap64 (v1 : Int) * 131) = ((v1 * 131 : Nat) : Int) := by rw [w64 (x := (v1 : Int)) (by omega) (by omega), w64 (by omega) (by omega)]; omega
      have s2 : wrap64 (wrap64 (v2 : Int) * 1117) = ((v2 * 1117 : Nat) : Int) := by rw [w64 (x := (v2 : Int)) (by omega) (by omega), w64 (by omega) (by omega)]; omega
      have s3 : wrap64 ((p : Int) * 29) = ((p * 29 : Nat) : Int) := by rw [w64 (by omega) (by omega)]; omega
      have s4 : wrap64 (wrap64 ((qq : Nat) : Int) * 53) = ((qq * 53 : Nat) : Int) := by rw [w64 (x := ((qq : Nat) : Int)) (by omega) (by omega), w64 (by omega) (by omega)]; omega
      have s5 : wrap64 (wrap64 (wrap64 (((v1 * 131 : Nat) : Int) + ((v2 * 1117 : Nat) : Int)) + ((p * 29 : Nat) : Int)) + ((qq * 53 : Nat) : Int)) = ((v1 * 131 + v2 * 1117 + p * 29 + qq * 53 : Nat) : Int) := by
        rw [w64 (x := ((v1 * 131 : Nat) : Int) + ((v2 * 1117 : Nat) : Int)) (by omega) (by omega), w64 (x := ((v1 * 131 : Nat) : Int) + ((v2 * 1117 : Nat) : Int) + ((p * 29 : Nat) : Int)) (by omega) (by omega), w64 (by omega) (by omega)]; omega
      generalize hX : v1 * 131 + v2 * 1117 + p * 29 + qq * 53 = X at s5
      have hXl : X < 100000000 := by omega
      have s6 : wrap64 (Int.tdiv (X : Int) 64) = ((X / 64 : Nat) : Int) := by
        rw [Int.tdiv_eq_ediv_of_nonneg (by omega), w64 (by omega) (by omega)]; omega
      have hx := bits_xor_nat X (X / 64) (by omega) (by omega)
      refine ⟨(X ^^^ X / 64) % n, Nat.mod_lt _ (by omega), Ev.congr st (Ev.step (f := fun k => some ((((X ^^^ X / 64) % n : Nat) : Int), ((p + 1 : Nat) : Int))) (fun k => ?_) (Ev.now _))⟩
      simp only [spec_l6Rd_pick.j0]
      rw [if_neg (by decide), w2, if_neg (by omega), if_neg (by omega), m1, w3, w4, m2, if_pos (by omega), if_pos (by omega), if_pos (by omega), if_pos (by omega), if_neg (by omega), hv1, hv2, q1, s1, s2, s3, s4, s5, s6, hx, Int.tmod_eq_emod_of_nonneg (by omega)]
      rfl

end Go.Proofs.Ytjjnckgdpdelkaa.P

-- spec.l91Said draws a text of few signs.
namespace Go.Proofs.Ytjjnckgdpdelkaa.P
open Go.RowKit Go.Proofs.YtjjnckgdpdelkaaW.PrintWords Go.Proofs.YtjjnckgdpdelkaaW.PrintLast Go.Proofs.YtjjnckgdpdelkaaW.PrintMore
set_option linter.unusedVariables false
set_option linter.unusedSimpArgs false

def szT : Nat → Nat
  | 0 => 1
  | d + 1 => 2 * szT d + 3
theorem szT_pos (d : Nat) : 1 ≤ szT d := by cases d <;> simp only [szT] <;> omega
theorem szT_le {d : Nat} (h : d ≤ 3) : szT d ≤ 29 := by
  rcases (show d = 0 ∨ d = 1 ∨ d = 2 ∨ d = 3 by omega) with rfl | rfl | rfl | rfl <;> decide
theorem pick4 {v : Nat} (hv : v < 4) (a b c d : ByteArray) (ha : a.size = 1) (hb : b.size = 1) (hc : c.size = 1) (hd : d.size = 1) : (rdOf ByteArray.empty [a, b, c, d] (v : Int)).size = 1 := by
  rcases (show v = 0 ∨ v = 1 ∨ v = 2 ∨ v = 3 by omega) with rfl | rfl | rfl | rfl
  · exact ha
  · exact hb
  · exact hc
  · exact hd
theorem bsz1 (c : UInt8) (s : ByteArray) : ((⟨#[c]⟩ : ByteArray) ++ s).size = 1 + s.size := by rw [ByteArray.size_append]; rfl
theorem term91_leaf {b : List Int} (h : Go.Proofs.Ytjjnckgdpdelkaa.P.Code b) (p : Nat) (x : Int) (hp : p ≤ 100000) : ∃ (s : ByteArray), s.size ≤ 1 ∧ Ev (fun k => spec_l91Term.j0 k x true b p) (s, ((p + 1 : Nat) : Int)) := by
  obtain ⟨v, hv, K, h1⟩ := pick_f h p 4 (by omega) (by omega) (by omega)
  dsimp only at h1
  have g1 : ∀ k, K ≤ k → spec_l6Rd_pick.f k b p 4 = some ((v : Int), ((p + 1 : Nat) : Int)) := h1
  refine ⟨rdOf ByteArray.empty [(⟨#[48]⟩ : ByteArray), (⟨#[49]⟩ : ByteArray), (⟨#[97]⟩ : ByteArray), (⟨#[97]⟩ : ByteArray)] (v : Int), by rw [pick4 hv _ _ _ _ rfl rfl rfl rfl]; exact Nat.le_refl _, K + 1, fun k hk => ?_⟩
  obtain ⟨k, rfl⟩ : ∃ j, k = j + 1 := ⟨k - 1, by omega⟩
  simp only [spec_l91Term.j0]
  rw [if_pos (by trivial), Option.bind_some, g1 k (by omega), Option.bind_some, if_pos (by (try dsimp only); omega), if_pos (by (try dsimp only); simp; omega)]
theorem term91_f {b : List Int} (h : Go.Proofs.Ytjjnckgdpdelkaa.P.Code b) : ∀ (d p : Nat), d ≤ 3 → p + 100 * d ≤ 10000 → ∃ (s : ByteArray) (q : Nat), s.size ≤ szT d ∧ q ≤ p + szT d ∧ Ev (fun k => spec_l91Term.f k b p d) (s, (q : Int)) := by
  intro d
  induction d with
  | zero =>
    intro p _ hp
    obtain ⟨s, hs, K, h1⟩ := term91_leaf h p 0 (by omega)
    dsimp only at h1
    refine ⟨s, p + 1, hs, Nat.le_refl _, K + 1, fun k hk => ?_⟩
    obtain ⟨k, rfl⟩ : ∃ j, k = j + 1 := ⟨k - 1, by omega⟩
    simp only [spec_l91Term.f]
    rw [if_pos (by (try dsimp only); omega)]
    exact h1 k (by omega)
  | succ d ih =>
    intro p hd hp
    have hsz := szT_pos d
    have hsl := szT_le (show d ≤ 3 by omega)
    have e1 : wrap64 (((d + 1 : Nat) : Int) - 1) = (d : Int) := by rw [w64 (by omega) (by omega)]; omega
    obtain ⟨v, hv, K1, h1⟩ := pick_f h p 5 (by omega) (by omega) (by omega)
    dsimp only at h1
    have g1 : ∀ k, K1 ≤ k → spec_l6Rd_pick.f k b p 5 = some ((v : Int), ((p + 1 : Nat) : Int)) := h1
    have main : ∃ (s : ByteArray) (q : Nat), s.size ≤ szT (d + 1) ∧ q ≤ p + szT (d + 1) ∧ Ev (fun k => spec_l91Term.j0 k ((d + 1 : Nat) : Int) ((v : Int) == 0) b ((p + 1 : Nat) : Int)) (s, (q : Int)) := by
      simp only [szT]
      by_cases hv0 : (v : Int) = 0
      · obtain ⟨s, hs, hE⟩ := term91_leaf h (p + 1) ((d + 1 : Nat) : Int) (by omega)
        refine ⟨s, p + 1 + 1, by omega, by omega, ?_⟩
        rw [hv0]
        exact hE
      · rw [show ((v : Int) == 0) = false by rw [beq_eq_false_iff_ne]; exact hv0]
        obtain ⟨v2, hv2, K2, h2⟩ := pick_f h (p + 1) 6 (by omega) (by omega) (by omega)
        dsimp only at h2
        have g2 : ∀ k, K2 ≤ k → spec_l6Rd_pick.f k b ((p + 1 : Nat) : Int) 6 = some ((v2 : Int), ((p + 1 + 1 : Nat) : Int)) := h2
        by_cases c0 : (v2 : Int) = 0
        · obtain ⟨s, q, hs, hq, K3, h3⟩ := ih (p + 1 + 1) (by omega) (by omega)
          dsimp only at h3
          refine ⟨(⟨#[42]⟩ : ByteArray) ++ s, q, by rw [bsz1]; omega, by omega, K2 + K3 + 1, fun k hk => ?_⟩
          obtain ⟨k, rfl⟩ : ∃ j, k = j + 1 := ⟨k - 1, by omega⟩
          simp only [spec_l91Term.j0]
          rw [if_neg (by decide), g2 k (by omega), Option.bind_some, if_pos c0, e1, h3 k (by omega), Option.bind_some, if_pos (by (try dsimp only); omega)]
        · by_cases c1 : (v2 : Int) = 1
          · obtain ⟨v3, hv3, K3, h3⟩ := pick_f h (p + 1 + 1) 4 (by omega) (by omega) (by omega)
            dsimp only at h3
            have g3 : ∀ k, K3 ≤ k → spec_l6Rd_pick.f k b ((p + 1 + 1 : Nat) : Int) 4 = some ((v3 : Int), ((p + 1 + 1 + 1 : Nat) : Int)) := h3
            obtain ⟨s, q, hs, hq, K4, h4⟩ := ih (p + 1 + 1 + 1) (by omega) (by omega)
            dsimp only at h4
            have hz := pick4 hv3 (⟨#[50]⟩ : ByteArray) (⟨#[51]⟩ : ByteArray) (⟨#[52]⟩ : ByteArray) (⟨#[53]⟩ : ByteArray) rfl rfl rfl rfl
            refine ⟨rdOf ByteArray.empty [(⟨#[50]⟩ : ByteArray), (⟨#[51]⟩ : ByteArray), (⟨#[52]⟩ : ByteArray), (⟨#[53]⟩ : ByteArray)] (v3 : Int) ++ s, q, by rw [ByteArray.size_append]; omega, by omega, K2 + K3 + K4 + 1, fun k hk => ?_⟩
            obtain ⟨k, rfl⟩ : ∃ j, k = j + 1 := ⟨k - 1, by omega⟩
            simp only [spec_l91Term.j0]
            rw [if_neg (by decide), g2 k (by omega), Option.bind_some, if_neg c0, if_pos c1, Option.bind_some, g3 k (by omega), Option.bind_some, if_pos (by (try dsimp only); omega), if_pos (by (try dsimp only); simp; omega), e1, h4 k (by omega), Option.bind_some, if_pos (by (try dsimp only); rw [hz]; omega)]
          · obtain ⟨s, q, hs, hq, K3, h3⟩ := ih (p + 1 + 1) (by omega) (by omega)
            dsimp only at h3
            obtain ⟨v4, hv4, K4, h4⟩ := pick_f h q 4 (by omega) (by omega) (by omega)
            dsimp only at h4
            have g4 : ∀ k, K4 ≤ k → spec_l6Rd_pick.f k b (q : Int) 4 = some ((v4 : Int), ((q + 1 : Nat) : Int)) := h4
            obtain ⟨s5, q5, hs5, hq5, K5, h5⟩ := ih (q + 1) (by omega) (by omega)
            dsimp only at h5
            have hz := pick4 hv4 (⟨#[43]⟩ : ByteArray) (⟨#[43]⟩ : ByteArray) (⟨#[46]⟩ : ByteArray) (⟨#[38]⟩ : ByteArray) rfl rfl rfl rfl
            refine ⟨((((⟨#[40]⟩ : ByteArray) ++ s) ++ rdOf ByteArray.empty [(⟨#[43]⟩ : ByteArray), (⟨#[43]⟩ : ByteArray), (⟨#[46]⟩ : ByteArray), (⟨#[38]⟩ : ByteArray)] (v4 : Int)) ++ s5) ++ (⟨#[41]⟩ : ByteArray), q5, ?_, by omega, K2 + K3 + K4 + K5 + 1, fun k hk => ?_⟩
            · rw [ByteArray.size_append, ByteArray.size_append, ByteArray.size_append, bsz1, hz, show (⟨#[41]⟩ : ByteArray).size = 1 from rfl]; omega
            obtain ⟨k, rfl⟩ : ∃ j, k = j + 1 := ⟨k - 1, by omega⟩
            simp only [spec_l91Term.j0]
            rw [if_neg (by decide), g2 k (by omega), Option.bind_some, if_neg c0, if_neg c1, e1, h3 k (by omega), Option.bind_some, if_pos (by (try dsimp only); omega), Option.bind_some, g4 k (by omega), Option.bind_some, if_pos (by (try dsimp only); omega), if_pos (by (try dsimp only); simp; omega), if_pos (by (try dsimp only); rw [hz]; omega), h5 k (by omega), Option.bind_some, if_pos (by (try dsimp only); rw [hz]; omega), if_pos (by (try dsimp only); rw [hz]; omega)]
    obtain ⟨s, q, hs, hq, K6, h6⟩ := main
    dsimp only at h6
    refine ⟨s, q, hs, hq, K1 + K6 + 1, fun k hk => ?_⟩
    obtain ⟨k, rfl⟩ : ∃ j, k = j + 1 := ⟨k - 1, by omega⟩
    simp only [spec_l91Term.f]
    rw [if_neg (by omega), g1 k (by omega), Option.bind_some]
    exact h6 k (by omega)
theorem pick5_le {v : Nat} (hv : v < 5) : (rdOf ByteArray.empty [(⟨#[]⟩ : ByteArray), (⟨#[98]⟩ : ByteArray), (⟨#[40]⟩ : ByteArray), (⟨#[41]⟩ : ByteArray), (⟨#[43]⟩ : ByteArray)] (v : Int)).size ≤ 1 := by
  rcases (show v = 0 ∨ v = 1 ∨ v = 2 ∨ v = 3 ∨ v = 4 by omega) with rfl | rfl | rfl | rfl | rfl <;> decide
theorem said91_f {b : List Int} (h : Go.Proofs.Ytjjnckgdpdelkaa.P.Code b) : ∃ (s : ByteArray) (q : Nat), s.size ≤ 30 ∧ q ≤ 100 ∧ Ev (fun k => spec_l91Said.f k b 0) (s, (q : Int)) := by
  obtain ⟨d, hd, K1, h1⟩ := pick_f h 0 4 (by omega) (by omega) (by omega)
  dsimp only at h1
  have g1 : ∀ k, K1 ≤ k → spec_l6Rd_pick.f k b 0 4 = some ((d : Int), ((0 + 1 : Nat) : Int)) := h1
  obtain ⟨s, q, hs, hq, K2, h2⟩ := term91_f h d (0 + 1) (by omega) (by omega)
  dsimp only at h2
  have hsl := szT_le (show d ≤ 3 by omega)
  obtain ⟨v3, hv3, K3, h3⟩ := pick_f h q 16 (by omega) (by omega) (by omega)
  dsimp only at h3
  have g3 : ∀ k, K3 ≤ k → spec_l6Rd_pick.f k b (q : Int) 16 = some ((v3 : Int), ((q + 1 : Nat) : Int)) := h3
  by_cases c0 : (v3 : Int) = 0
  · obtain ⟨v4, hv4, K4, h4⟩ := pick_f h (q + 1) (s.size + 1) (by omega) (by omega) (by omega)
    dsimp only at h4
    have e4 : wrap64 ((s.size : Int) + 1) = ((s.size + 1 : Nat) : Int) := by rw [w64 (by omega) (by omega)]; omega
    obtain ⟨v5, hv5, K5, h5⟩ := pick_f h (q + 1 + 1) 5 (by omega) (by omega) (by omega)
    dsimp only at h5
    have g5 : ∀ k, K5 ≤ k → spec_l6Rd_pick.f k b ((q + 1 + 1 : Nat) : Int) 5 = some ((v5 : Int), ((q + 1 + 1 + 1 : Nat) : Int)) := h5
    have hz := pick5_le hv5
    have z1 : (s.extract 0 v4).size ≤ v4 := by rw [ByteArray.size_extract]; omega
    have z2 : (s.extract v4 s.size).size ≤ s.size - v4 := by rw [ByteArray.size_extract]; omega
    refine ⟨(s.extract 0 v4 ++ rdOf ByteArray.empty [(⟨#[]⟩ : ByteArray), (⟨#[98]⟩ : ByteArray), (⟨#[40]⟩ : ByteArray), (⟨#[41]⟩ : ByteArray), (⟨#[43]⟩ : ByteArray)] (v5 : Int)) ++ s.extract v4 s.size, q + 1 + 1 + 1, ?_, by omega, K1 + K2 + K3 + K4 + K5, fun k hk => ?_⟩
    · rw [ByteArray.size_append, ByteArray.size_append]; omega
    dsimp only
    unfold spec_l91Said.f
    rw [g1 k (by omega), Option.bind_some, h2 k (by omega), Option.bind_some, g3 k (by omega), Option.bind_some, if_pos c0]
    dsimp only
    rw [e4, h4 k (by omega), Option.bind_some]
    dsimp only
    rw [if_pos (by (try dsimp only); omega), if_pos (by (try dsimp only); omega), Option.bind_some, g5 k (by omega), Option.bind_some]
    dsimp only
    rw [if_pos (by (try dsimp only); omega), if_pos (by (try dsimp only); simp; omega), Int.toNat_natCast, if_pos (by (try dsimp only); omega), if_pos (by (try dsimp only); omega)]
  · refine ⟨s, q + 1, by omega, by omega, K1 + K2 + K3, fun k hk => ?_⟩
    dsimp only
    unfold spec_l91Said.f
    rw [g1 k (by omega), Option.bind_some, h2 k (by omega), Option.bind_some, g3 k (by omega), Option.bind_some, if_neg c0]
end Go.Proofs.Ytjjnckgdpdelkaa.P

-- What the term's reference answers: whether a number is in it, and which numbers.
namespace Go.Proofs.Ytjjnckgdpdelkaa.P
open Go.RowKit Go.Proofs.YtjjnckgdpdelkaaW.PrintWords Go.Proofs.YtjjnckgdpdelkaaW.PrintLast Go.Proofs.YtjjnckgdpdelkaaW.PrintMore
set_option linter.unusedVariables false
set_option linter.unusedSimpArgs false

theorem stermEmpty_f (s : ByteArray) : Ev (fun k => spec_TermEmpty.f k s) (trh (chrs s) 0) := by
  unfold trh
  cases hT : trm (chrs s) with
  | none => exact ⟨0, fun k _ => by dsimp only; unfold spec_TermEmpty.f; rw [l7of_f, hT]; rfl⟩
  | some t =>
    obtain ⟨K, h1⟩ := l7marks_f 1 (by omega) t (trm_some hT).2.1
    have g1 : ∀ k, K ≤ k → spec_l7Marks.f k t.S.f0 t.S.f1 1 = some (mkT (tsem t) 1) := h1
    refine ⟨K, fun k hk => ?_⟩
    dsimp only
    unfold spec_TermEmpty.f
    rw [l7of_f, hT, Option.bind_some]
    rw [if_pos (show (of7 (some t)).2.2 = true from rfl)]
    dsimp only [of7]
    rw [g1 k hk, Option.bind_some, mkT_length, if_pos (by decide)]
    have := rdOf_nat (mkT (tsem t) 1) 0
    rw [mkT_get _ (by omega)] at this
    rw [show (0 : Int) = ((0 : Nat) : Int) from rfl, this]
    simp
theorem stermHas_f (s : ByteArray) (n : Int) : Ev (fun k => spec_TermHas.f k s n) (trh (chrs s) n) := by
  unfold trh
  cases hT : trm (chrs s) with
  | none => exact ⟨0, fun k _ => by dsimp only; unfold spec_TermHas.f; rw [l7of_f, hT]; rfl⟩
  | some t =>
    by_cases hn : 0 ≤ n ∧ n ≤ 200
    · obtain ⟨m, rfl⟩ := Int.eq_ofNat_of_zero_le hn.1
      obtain ⟨K, h1⟩ := l7marks_f (m + 1) (by omega) t (trm_some hT).2.1
      dsimp only at h1
      refine ⟨K, fun k hk => ?_⟩
      dsimp only
      unfold spec_TermHas.f
      rw [l7of_f, hT, Option.bind_some]
      rw [if_pos (show (of7 (some t)).2.2 = true from rfl)]
      dsimp only [of7]
      rw [l6in_f, Option.bind_some, decide_eq_true hn, if_pos (by trivial), w64 (by omega) (by omega), show ((m : Int) + 1) = ((m + 1 : Nat) : Int) by omega, h1 k hk, Option.bind_some, mkT_length, if_pos (by omega), if_pos (by omega), rdOf_nat, mkT_get _ (by omega)]
      simp
    · refine ⟨0, fun k _ => ?_⟩
      dsimp only
      unfold spec_TermHas.f
      rw [l7of_f, hT, Option.bind_some]
      rw [if_pos (show (of7 (some t)).2.2 = true from rfl)]
      dsimp only [of7]
      rw [l6in_f, Option.bind_some, decide_eq_false hn, if_neg (by decide)]
      rfl
theorem stermList_l0 (f : Nat → Bool) (n : Nat) (hn : n ≤ 1000) : ∀ (d i : Nat), n - i = d → i ≤ n → Ev (fun k => spec_TermList.l0 k n (lstq f i) (mkT f n) i) (lstq f n, true) := by
  intro d
  induction d with
  | zero =>
    intro i hd hi
    obtain rfl : i = n := by omega
    refine Ev.step (f := fun k => some (lstq f i, true)) (fun k => ?_) (Ev.now _)
    simp only [spec_TermList.l0]; rw [if_neg (by omega)]
  | succ d ih =>
    intro i hd hi
    have hl := lstq_length f i
    refine Ev.step (fun k => ?_) (ih (i + 1) (by omega) (by omega))
    simp only [spec_TermList.l0]
    rw [if_pos (by omega), if_pos (by omega), mkT_length, if_pos (by omega), rdOf_nat, mkT_get _ (by omega), lstq_succ, w64 (by omega) (by omega), show ((i : Int) + 1) = ((i + 1 : Nat) : Int) by omega]
    split
    · rw [if_pos (by omega)]
    · rfl
theorem stermList_f (s : ByteArray) (n : Int) : Ev (fun k => spec_TermList.f k s n) (trl (chrs s) n) := by
  unfold trl
  cases hT : trm (chrs s) with
  | none =>
    refine ⟨1, fun k hk => ?_⟩
    obtain ⟨k, rfl⟩ : ∃ j, k = j + 1 := ⟨k - 1, by omega⟩
    dsimp only; unfold spec_TermList.f; rw [l7of_f, hT]; simp only [Option.bind_some, of7, spec_TermList.j0]; rfl
  | some t =>
    by_cases hn : 0 ≤ n ∧ n ≤ 200
    · obtain ⟨m, rfl⟩ := Int.eq_ofNat_of_zero_le hn.1
      dsimp only
      rw [if_pos hn, Int.toNat_natCast]
      obtain ⟨K, h1⟩ := l7marks_f m (by omega) t (trm_some hT).2.1
      dsimp only at h1
      obtain ⟨K2, h2⟩ := stermList_l0 (tsem t) m (by omega) _ 0 rfl (by omega)
      have g2 : ∀ k, K2 ≤ k → spec_TermList.l0 k m [] (mkT (tsem t) m) 0 = some (lstq (tsem t) m, true) := h2
      refine ⟨K + K2 + 1, fun k hk => ?_⟩
      obtain ⟨k, rfl⟩ : ∃ j, k = j + 1 := ⟨k - 1, by omega⟩
      dsimp only
      unfold spec_TermList.f
      rw [l7of_f, hT, Option.bind_some, Option.bind_some]
      rw [if_pos (show (of7 (some t)).2.2 = true from rfl)]
      dsimp only [of7]
      rw [l6in_f, Option.bind_some, decide_eq_true hn]
      simp only [spec_TermList.j0]
      rw [if_neg (by decide), h1 k (by omega), Option.bind_some, g2 k (by omega)]
    · dsimp only
      rw [if_neg hn]
      refine ⟨1, fun k hk => ?_⟩
      obtain ⟨k, rfl⟩ : ∃ j, k = j + 1 := ⟨k - 1, by omega⟩
      dsimp only
      unfold spec_TermList.f
      rw [l7of_f, hT, Option.bind_some, Option.bind_some]
      rw [if_pos (show (of7 (some t)).2.2 = true from rfl)]
      dsimp only [of7]
      rw [l6in_f, Option.bind_some, decide_eq_false hn]
      simp only [spec_TermList.j0]
      rw [if_pos (by decide)]
theorem trl_len (s : List UInt8) (n : Int) : (trl s n).1.length ≤ 200 := by
  unfold trl
  split
  · simp
  · split
    · exact Nat.le_trans (lstq_length _ _) (by omega)
    · simp
end Go.Proofs.Ytjjnckgdpdelkaa.P
