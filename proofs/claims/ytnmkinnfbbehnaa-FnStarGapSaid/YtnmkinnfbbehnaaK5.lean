/- What these laws reach, joined by a program of this session: contracts (written by that program over the kit's print, or by hand) and plain lemmas. -/
import Derived.RangeFuncBox
import Derived.RangeFuncNested
import Derived.RangeFuncBound
import Derived.RangeFuncCalls
import Derived.RangeFuncLeaves
import Derived.Shelf.Abstract
import Derived.Shelf.RegionOpen
import Derived.WalkKit
import Derived.OwnWalkIn
import Derived.TacticsInMore
import Derived.LoopNIn
import Derived.LoopIn
import Derived.Test.YtnmkinnfbbehnaaK1
import Derived.Test.YtnmkinnfbbehnaaK2
import Derived.Test.YtnmkinnfbbehnaaK3
import Derived.Test.YtnmkinnfbbehnaaK4
open Go.Proofs.YtnmkinnfbbehnaaW.PrintWords renaming below_alloc → yA, pw_below_drewN → yB, below_drew1 → yC, below_set → yD, blk_drewN → yE, blk_drew → yF, blk_alloc → yG, below_step → yP, below_size → yQ
open Go.Proofs.YtnmkinnfbbehnaaW.PrintWords.Kd renaming R_alloc → yH, R_drewN → yI, R_drew → yJ
open List renaming setIfInBounds_toArray → yK, set_cons_zero → yL, set_cons_succ → yM
-- spec.l6Open and pick: whatever is drawn lies in its range.
namespace Go.Proofs.Ytnmkinnfbbehnaa.P
open Go.RowKit Go.Proofs.YtnmkinnfbbehnaaW.PrintWords Go.Proofs.YtnmkinnfbbehnaaW.PrintLast Go.Proofs.YtnmkinnfbbehnaaW.PrintMore
set_option linter.unusedVariables false
set_option linter.unusedSimpArgs false

theorem bits_xor_nat (a b : Nat) (ha : a < 2 ^ 62) (hb : b < 2 ^ 62) : Go.bits .xor .i64 (a : Int) (b : Int) = ((a ^^^ b : Nat) : Int) := by
  have ha' : a % 2 ^ IntKind.i64.bits = a := Nat.mod_eq_of_lt (by show a < 2 ^ 64; omega)
  have hb' : b % 2 ^ IntKind.i64.bits = b := Nat.mod_eq_of_lt (by show b < 2 ^ 64; omega)
  have hx := Nat.xor_lt_two_pow ha hb
  simp only [Go.bits, BitVec.ofInt_natCast, BitVec.toNat_xor, BitVec.toNat_ofNat, ha', hb']
  rw [IntKind.wrap_i64]
  omega
theorem open_f (l : List Int) : spec_l6Open.f l = some (l.take 2000, 0) := by
  unfold spec_l6Open.f
  by_cases h : (l.length : Int) > 2000
  · rw [if_pos h, if_pos (by omega)]
  · rw [if_neg h, List.take_of_length_le (by omega)]
/-- The code of a draw: bytes, not too many. -/
structure Code (b : List Int) : Prop where
  byte : ∀ x ∈ b, 0 ≤ x ∧ x ≤ 255
  len : b.length ≤ 2000
theorem code_of {l : List Int} (h : ∀ x ∈ l, (Lit.int .u8 x).wf = true) : Code (l.take 2000) := by
  refine ⟨fun x hx => ?_, by rw [List.length_take]; omega⟩
  have := h x (List.mem_of_mem_take hx)
  have h0 : IntKind.u8.min = 0 := rfl
  have h1 : IntKind.u8.max = 255 := rfl
  simp [Lit.wf, h0, h1] at this
  omega
theorem Code.rd {b : List Int} (h : Code b) {i : Nat} (hi : i < b.length) : 0 ≤ Go.Proofs.YtnmkinnfbbehnaaW.PrintWords.rd b (i : Int) ∧ Go.Proofs.YtnmkinnfbbehnaaW.PrintWords.rd b (i : Int) ≤ 255 := by
  have e : Go.Proofs.YtnmkinnfbbehnaaW.PrintWords.rd b (i : Int) = b[i] := by simp [Go.Proofs.YtnmkinnfbbehnaaW.PrintWords.rd, List.getD_eq_getElem?_getD, hi]
  rw [e]; exact h.byte _ (List.getElem_mem hi)
theorem pick_f {b : List Int} (h : Code b) (p n : Nat) (hp : p ≤ 1000000) (hn : 1 ≤ n) (hn2 : n ≤ 1000000) : ∃ v : Nat, v < n ∧ Ev (fun k => spec_l6Rd_pick.f k b p n) ((v : Int), ((p + 1 : Nat) : Int)) := by
  have w1 : wrap64 ((p : Int) + 1) = ((p + 1 : Nat) : Int) := by rw [w64 (by omega) (by omega)]; omega
  have w2 : wrap64 (((p + 1 : Nat) : Int) - 1) = (p : Int) := by rw [w64 (by omega) (by omega)]; omega
  have hlen := h.len
  by_cases h0 : b.length = 0
  · refine ⟨0, by omega, ?_⟩
    have e : ((b.length : Int) == 0) = true := by rw [beq_iff_eq]; omega
    refine Ev.congr (f := fun k => spec_l6Rd_pick.j0 k n true b ((p + 1 : Nat) : Int)) (fun k => ?_) (Ev.step (f := fun k => some (0, ((p + 1 : Nat) : Int))) (fun k => ?_) (Ev.now _))
    · unfold spec_l6Rd_pick.f; rw [if_neg (by omega), e, w1]
    · simp only [spec_l6Rd_pick.j0]; rw [if_pos trivial]
  · have e : ((b.length : Int) == 0) = false := by rw [beq_eq_false_iff_ne]; omega
    have st : ∀ k, spec_l6Rd_pick.f k b p n = spec_l6Rd_pick.j0 k n false b ((p + 1 : Nat) : Int) := fun k => by
      unfold spec_l6Rd_pick.f; rw [if_neg (by omega), e, w1]
    by_cases hlt : p < b.length
    · obtain ⟨v, hv⟩ := Int.eq_ofNat_of_zero_le (h.rd hlt).1
      have hv2 := (h.rd hlt).2
      rw [hv] at hv2
      refine ⟨v % n, Nat.mod_lt _ (by omega), Ev.congr st (Ev.step (f := fun k => some (((v % n : Nat) : Int), ((p + 1 : Nat) : Int))) (fun k => ?_) (Ev.now _))⟩
      simp only [spec_l6Rd_pick.j0]
      rw [if_neg (by decide), w2, if_pos (by omega), if_pos (by omega), if_neg (by omega), hv, w64 (by omega) (by omega), Int.tmod_eq_emod_of_nonneg (by omega)]
      rfl
    · have hpos : 0 < b.length := by omega
      have m1 : Int.tmod (p : Int) (b.length : Int) = ((p % b.length : Nat) : Int) := by rw [Int.tmod_eq_emod_of_nonneg (by omega)]; rfl
      have w3 : wrap64 ((p : Int) * 7) = ((p * 7 : Nat) : Int) := by rw [w64 (by omega) (by omega)]; omega
      have w4 : wrap64 (((p * 7 : Nat) : Int) + 3) = ((p * 7 + 3 : Nat) : Int) := by rw [w64 (by omega) (by omega)]; omega
      have m2 : Int.tmod ((p * 7 + 3 : Nat) : Int) (b.length : Int) = (((p * 7 + 3) % b.length : Nat) : Int) := by rw [Int.tmod_eq_emod_of_nonneg (by omega)]; rfl
      have l1 := Nat.mod_lt p hpos
      have l2 := Nat.mod_lt (p * 7 + 3) hpos
      obtain ⟨v1, hv1⟩ := Int.eq_ofNat_of_zero_le (h.rd l1).1
      obtain ⟨v2, hv2⟩ := Int.eq_ofNat_of_zero_le (h.rd l2).1
      have u1 := (h.rd l1).2
      have u2 := (h.rd l2).2
      rw [hv1] at u1
      rw [hv2] at u2
      have q1 : Int.tdiv (p : Int) (b.length : Int) = ((p / b.length : Nat) : Int) := by rw [Int.tdiv_eq_ediv_of_nonneg (by omega)]; rfl
      have q1l : p / b.length ≤ p := Nat.div_le_self _ _
      generalize p / b.length = qq at q1 q1l
      have s1 : wrap64 (wrap64 (v1 : Int) * 131) = ((v1 * 131 : Nat) : Int) := by rw [w64 (x := (v1 : Int)) (by omega) (by omega), w64 (by omega) (by omega)]; omega
      have s2 : wrap64 (wrap64 (v2 : Int) * 1117) = ((v2 * 1117 : Nat) : Int) := by rw [w64 (x := (v2 : Int)) (by omega) (by omega), w64 (by omega) (by omega)]; omega
      have s3 : wrap64 ((p : Int) * 29) = ((p * 29 : Nat) : Int) := by rw [w64 (by omega) (by omega)]; omega
      have s4 : wrap64 (wrap64 ((qq : Nat) : Int) * 53) = ((qq * 53 : Nat) : Int) := by rw [w64 (x := ((qq : Nat) : Int)) (by omega) (by omega), w64 (by omega) (by omega)]; omega
      have s5 : wrap64 (wrap64 (wrap64 (((v1 * 131 : Nat) : Int) + ((v2 * 1117 : Nat) : Int)) + ((p * 29 : Nat) : Int)) + ((qq * 53 : Nat) : Int)) = ((v1 * 131 + v2 * 1117 + p * 29 + qq * 53 : Nat) : Int) := by
        rw [w64 (x := ((v1 * 131 : Nat) : Int) + ((v2 * 1117 : Nat) : Int)) (by omega) (by omega), w64 (x := ((v1 * 131 : Nat) : Int) + ((v2 * 1117 : Nat) : Int) + ((p * 29 : Nat) : Int)) (by omega) (by omega), w64 (by omega) (by omega)]; omega
      generalize hX : v1 * 131 + v2 * 1117 + p * 29 + qq * 53 = X at s5
      have hXl : X < 100000000 := by omega
      have s6 : wrap64 (Int.tdiv (X : Int) 64) = ((X / 64 : Nat) : Int) := by
        rw [Int.tdiv_eq_ediv_of_nonneg (by omega), w64 (by omega) (by omega)]; omega
      have hx := bits_xor_nat X (X / 64) (by omega) (by omega)
      refine ⟨(X ^^^ X / 64) % n, Nat.mod_lt _ (by omega), Ev.congr st (Ev.step (f := fun k => some ((((X ^^^ X / 64) % n : Nat) : Int), ((p + 1 : Nat) : Int))) (fun k => ?_) (Ev.now _))⟩
      simp only [spec_l6Rd_pick.j0]
      rw [if_neg (by decide), w2, if_neg (by omega), if_neg (by omega), m1, w3, w4, m2, if_pos (by omega), if_pos (by omega), if_pos (by omega), if_pos (by omega), if_neg (by omega), hv1, hv2, q1, s1, s2, s3, s4, s5, s6, hx, Int.tmod_eq_emod_of_nonneg (by omega)]
      rfl

end Go.Proofs.Ytnmkinnfbbehnaa.P

-- spec.l91Set draws a set text of few signs, or none.
namespace Go.Proofs.Ytnmkinnfbbehnaa.P
open Go.RowKit Go.Proofs.YtnmkinnfbbehnaaW.PrintWords Go.Proofs.YtnmkinnfbbehnaaW.PrintLast Go.Proofs.YtnmkinnfbbehnaaW.PrintMore
set_option linter.unusedVariables false
set_option linter.unusedSimpArgs false

theorem signs91_l0 {b : List Int} (h : Code b) : ∀ (d : Nat) (acc : List Bool) (p : Nat), p + d ≤ 1000000 → acc.length + d ≤ 1000000 → ∃ l : List Bool, l.length = acc.length + d ∧ Ev (fun k => spec_l91Signs.l0 k (acc.map fun x => if x then (49 : Int) else 48) d b p) ((⟨(l.map sgn).toArray⟩ : ByteArray), ((p + d : Nat) : Int)) := by
  intro d
  induction d with
  | zero =>
    intro acc p hp ha
    refine ⟨acc, rfl, Ev.step (f := fun k => some (strOfNums (acc.map fun x => if x then (49 : Int) else 48), (p : Int))) (fun k => ?_) ?_⟩
    · simp only [spec_l91Signs.l0]; rw [if_neg (by omega)]
    · have e : strOfNums (acc.map fun x => if x then (49 : Int) else 48) = ⟨(acc.map sgn).toArray⟩ := by
        simp only [strOfNums, List.map_map]
        congr 2
        apply List.map_congr_left
        intro x _; cases x <;> rfl
      rw [e]; exact Ev.now _
  | succ d ih =>
    intro acc p hp ha
    obtain ⟨v, hv, hev⟩ := pick_f h p 2 (by omega) (by omega) (by omega)
    obtain ⟨l, hl, hlev⟩ := ih (acc ++ [v == 1]) (p + 1) (by omega) (by simp; omega)
    refine ⟨l, by rw [hl]; simp; omega, ?_⟩
    have e1 : (wrap64 (48 + (v : Int))) % 256 = if (v == 1) = true then (49 : Int) else 48 := by
      rw [w64 (by omega) (by omega)]
      rcases (show v = 0 ∨ v = 1 by omega) with rfl | rfl <;> rfl
    have e2 : wrap64 (((d + 1 : Nat) : Int) - 1) = (d : Int) := by rw [w64 (by omega) (by omega)]; omega
    refine Ev.step (f := fun k => (spec_l6Rd_pick.f k b p 2).bind fun bt112 => (if (acc.map fun x => if x then (49 : Int) else 48).length < 140737488355328 then (spec_l91Signs.l0 k ((acc.map fun x => if x then (49 : Int) else 48) ++ [(wrap64 (48 + bt112.1)) % 256]) (wrap64 (((d + 1 : Nat) : Int) - 1)) b bt112.2) else (none))) (fun k => ?_) (Ev.bind hev ?_)
    · simp only [spec_l91Signs.l0]; rw [if_pos (by omega)]
    · simp only [List.length_map, if_pos (show acc.length < 140737488355328 by omega), e1, e2]
      rw [List.map_append] at hlev
      rw [show p + (d + 1) = p + 1 + d by omega]
      exact hlev
theorem signs91_f {b : List Int} (h : Code b) (p low many : Nat) (hp : p ≤ 900000) (hlow : low ≤ 1000) (hm : 1 ≤ many) (hm2 : many ≤ 1000) : ∃ (l : List Bool) (q : Nat), low ≤ l.length ∧ l.length < low + many ∧ q ≤ p + 1 + low + many ∧ Ev (fun k => spec_l91Signs.f k b p low many) ((⟨(l.map sgn).toArray⟩ : ByteArray), (q : Int)) := by
  obtain ⟨v, hv, hev⟩ := pick_f h p many (by omega) hm (by omega)
  obtain ⟨l, hl, hlev⟩ := signs91_l0 h (low + v) [] (p + 1) (by omega) (by simp; omega)
  simp only [List.length_nil, Nat.zero_add] at hl
  refine ⟨l, p + 1 + (low + v), by omega, by omega, by omega, ?_⟩
  refine Ev.congr (fun k => rfl) (Ev.bind hev ?_)
  have e : wrap64 ((low : Int) + (v : Int)) = ((low + v : Nat) : Int) := by rw [w64 (by omega) (by omega)]; omega
  simp only [e]
  exact hlev
theorem bitsL_none : ∀ (l : List UInt8), (∃ c ∈ l, c ≠ 48 ∧ c ≠ 49) → bitsL l = none
  | [], h => by obtain ⟨c, hc, _⟩ := h; cases hc
  | x :: l, h => by
    obtain ⟨c, hc, h0, h1⟩ := h
    simp only [bitsL]
    rcases List.mem_cons.1 hc with rfl | hc
    · rw [if_neg h0, if_neg h1]
    · have := bitsL_none l ⟨c, hc, h0, h1⟩
      rw [this]; split
      · rfl
      · split <;> rfl
/-- A drawn set text. -/
structure Few (s : ByteArray) : Prop where
  size : s.size ≤ 20
  few : ∀ a b, parse (chrs s) = some (a, b) → a.length ≤ 5 ∧ b.length ≤ 5
theorem few_text {t r : List Bool} (ht : t.length ≤ 5) (h1 : 1 ≤ r.length) (hr : r.length ≤ 5) : Few (textOf t r) := by
  refine ⟨by rw [textOf_size]; omega, fun a b h => ?_⟩
  rw [parse_textOf (by omega) (by omega) (by intro e; rw [e] at h1; simp at h1)] at h
  simp only [Option.some.injEq, Prod.mk.injEq] at h
  rw [← h.1, ← h.2]; exact ⟨ht, hr⟩
theorem textOf_eq (t r : List Bool) : (((⟨(t.map sgn).toArray⟩ : ByteArray) ++ (⟨#[40]⟩ : ByteArray)) ++ (⟨(r.map sgn).toArray⟩ : ByteArray)) ++ (⟨#[41]⟩ : ByteArray) = textOf t r := by
  apply chrs_inj
  rw [chrs_append, chrs_append, chrs_append]; rfl
theorem size_sgn (l : List Bool) : (⟨(l.map sgn).toArray⟩ : ByteArray).size = l.length := by show (l.map sgn).toArray.size = _; simp
theorem few_cut {t r : List Bool} (ht : t.length ≤ 5) (h1 : 1 ≤ r.length) (hr : r.length ≤ 5) : Few ((⟨#[40]⟩ : ByteArray) ++ (textOf t r).extract 1 (textOf t r).size) := by
  have hc : chrs ((⟨#[40]⟩ : ByteArray) ++ (textOf t r).extract 1 (textOf t r).size) = 40 :: (chrs (textOf t r)).drop 1 := by
    rw [chrs_append, chrs_extract, List.take_of_length_le (by rw [chrs_length]; omega)]; rfl
  have hs : ((⟨#[40]⟩ : ByteArray) ++ (textOf t r).extract 1 (textOf t r).size).size = t.length + r.length + 2 := by
    rw [← chrs_length, hc, List.length_cons, List.length_drop, chrs_length, textOf_size]; omega
  cases t with
  | nil =>
    have e : ((⟨#[40]⟩ : ByteArray) ++ (textOf [] r).extract 1 (textOf [] r).size) = textOf [] r := by
      apply chrs_inj; rw [hc]; rfl
    rw [e]; exact few_text (by simp) h1 hr
  | cons x t =>
    refine ⟨by rw [hs]; omega, fun a b h => ?_⟩
    exfalso
    rw [hc] at h
    have hd : (chrs (textOf (x :: t) r)).drop 1 = t.map sgn ++ 40 :: (r.map sgn ++ [41]) := by rw [chrs_textOf]; simp
    rw [hd] at h
    unfold parse at h
    have hf : (40 :: (t.map sgn ++ 40 :: (r.map sgn ++ [41]))).findIdx (· == 40) = 0 := rfl
    rw [hf] at h
    have hb : bitsL (((40 :: (t.map sgn ++ 40 :: (r.map sgn ++ [41]))).take ((40 :: (t.map sgn ++ 40 :: (r.map sgn ++ [41]))).length - 1)).drop (0 + 1)) = none := by
      apply bitsL_none
      refine ⟨40, ?_, by decide, by decide⟩
      have hl : (40 :: (t.map sgn ++ 40 :: (r.map sgn ++ [41]))).length - 1 = (40 :: (t.map sgn ++ 40 :: r.map sgn)).length := by simp; omega
      rw [hl, show (40 : UInt8) :: (t.map sgn ++ 40 :: (r.map sgn ++ [41])) = (40 :: (t.map sgn ++ 40 :: r.map sgn)) ++ [41] by simp, List.take_left]
      simp
    rw [hb] at h
    split at h
    · split at h
      · rename_i h2; cases h2
      · cases h
    · cases h
theorem few_bad (i : Nat) (hi : i < 9) : Few (rdOf ByteArray.empty [(⟨#[]⟩ : ByteArray), (⟨#[48]⟩ : ByteArray), (⟨#[40, 41]⟩ : ByteArray), (⟨#[49, 40]⟩ : ByteArray), (⟨#[40, 48, 41, 41]⟩ : ByteArray), (⟨#[97, 40, 49, 41]⟩ : ByteArray), (⟨#[40, 49, 41, 48]⟩ : ByteArray), (⟨#[48, 49, 40, 48, 50, 41]⟩ : ByteArray), (⟨#[48, 40, 40, 49, 41]⟩ : ByteArray)] (i : Int)) := by
  rcases (show i = 0 ∨ i = 1 ∨ i = 2 ∨ i = 3 ∨ i = 4 ∨ i = 5 ∨ i = 6 ∨ i = 7 ∨ i = 8 by omega) with rfl | rfl | rfl | rfl | rfl | rfl | rfl | rfl | rfl <;>
    exact ⟨by decide, fun a b h => by exfalso; revert h; show (parse _ = some (a, b)) → False; intro h; exact absurd (h.symm.trans (show parse _ = none from by rfl)) (by simp)⟩
theorem set91_f {b : List Int} (h : Code b) (p : Nat) (hp : p ≤ 800000) : ∃ (s : ByteArray) (q : Nat), Few s ∧ q ≤ p + 50 ∧ Ev (fun k => spec_l91Set.f k b p) (s, (q : Int)) := by
  obtain ⟨t, p1, ht1, ht2, hp1, e1⟩ := signs91_f h p 0 6 (by omega) (by omega) (by omega) (by omega)
  obtain ⟨r, p2, hr1, hr2, hp2, e2⟩ := signs91_f h p1 1 5 (by omega) (by omega) (by omega) (by omega)
  obtain ⟨v, hv, e3⟩ := pick_f h p2 24 (by omega) (by omega) (by omega)
  have st := size_sgn t
  have sr := size_sgn r
  have fin : ∀ {R : ByteArray × Int}, Ev (fun k => (if (v : Int) = 0 then ((some (([(⟨#[]⟩ : ByteArray), (⟨#[48]⟩ : ByteArray), (⟨#[40, 41]⟩ : ByteArray), (⟨#[49, 40]⟩ : ByteArray), (⟨#[40, 48, 41, 41]⟩ : ByteArray), (⟨#[97, 40, 49, 41]⟩ : ByteArray), (⟨#[40, 49, 41, 48]⟩ : ByteArray), (⟨#[48, 49, 40, 48, 50, 41]⟩ : ByteArray), (⟨#[48, 40, 40, 49, 41]⟩ : ByteArray)] : List ByteArray) : List ByteArray)).bind fun y123 => ((spec_l6Rd_pick.f k b ((p2 + 1 : Nat) : Int) 9).bind fun bt126 => (if 0 ≤ bt126.1 then (if bt126.1 < (y123.length : Int) then (some (rdOf ByteArray.empty y123 bt126.1, bt126.2)) else (none)) else (none)))) else (if (v : Int) = 1 then ((spec_l91Signs.f k b ((p2 + 1 : Nat) : Int) 0 6).bind fun bt129 => (if bt129.1.size + 3 ≤ 9223372036854775807 then (some (bt129.1 ++ (⟨#[40, 48, 41]⟩ : ByteArray), bt129.2)) else (none))) else (if (v : Int) = 2 then (if 1 ≤ ((((((⟨(t.map sgn).toArray⟩ : ByteArray) ++ (⟨#[40]⟩ : ByteArray)) ++ (⟨(r.map sgn).toArray⟩ : ByteArray)) ++ (⟨#[41]⟩ : ByteArray)).size) : Int) then (if 1 + (((((⟨(t.map sgn).toArray⟩ : ByteArray) ++ (⟨#[40]⟩ : ByteArray)) ++ (⟨(r.map sgn).toArray⟩ : ByteArray)) ++ (⟨#[41]⟩ : ByteArray)).extract 1 ((((⟨(t.map sgn).toArray⟩ : ByteArray) ++ (⟨#[40]⟩ : ByteArray)) ++ (⟨(r.map sgn).toArray⟩ : ByteArray)) ++ (⟨#[41]⟩ : ByteArray)).size).size ≤ 9223372036854775807 then (some ((⟨#[40]⟩ : ByteArray) ++ (((((⟨(t.map sgn).toArray⟩ : ByteArray) ++ (⟨#[40]⟩ : ByteArray)) ++ (⟨(r.map sgn).toArray⟩ : ByteArray)) ++ (⟨#[41]⟩ : ByteArray)).extract 1 ((((⟨(t.map sgn).toArray⟩ : ByteArray) ++ (⟨#[40]⟩ : ByteArray)) ++ (⟨(r.map sgn).toArray⟩ : ByteArray)) ++ (⟨#[41]⟩ : ByteArray)).size), ((p2 + 1 : Nat) : Int))) else (none)) else (none)) else (some ((((⟨(t.map sgn).toArray⟩ : ByteArray) ++ (⟨#[40]⟩ : ByteArray)) ++ (⟨(r.map sgn).toArray⟩ : ByteArray)) ++ (⟨#[41]⟩ : ByteArray), ((p2 + 1 : Nat) : Int))))))) R → Ev (fun k => spec_l91Set.f k b p) R := by
    intro R hR
    refine Ev.congr (fun k => rfl) (Ev.bind e1 ?_)
    simp only [st, if_pos (show t.length + 1 ≤ 9223372036854775807 by omega)]
    refine Ev.bind e2 ?_
    simp only [sr, if_pos (show t.length + 1 + r.length ≤ 9223372036854775807 by omega), if_pos (show t.length + 1 + r.length + 1 ≤ 9223372036854775807 by omega)]
    exact Ev.bind e3 hR
  by_cases v0 : (v : Int) = 0
  · obtain ⟨j, hj, e4⟩ := pick_f h (p2 + 1) 9 (by omega) (by omega) (by omega)
    refine ⟨_, p2 + 1 + 1, few_bad j hj, by omega, fin ?_⟩
    simp only [if_pos v0, Option.bind_some]
    refine Ev.bind e4 ?_
    simp only [if_pos (show (0 : Int) ≤ (j : Int) by omega), List.length_cons, List.length_nil, if_pos (show (j : Int) < ((0 + 1 + 1 + 1 + 1 + 1 + 1 + 1 + 1 + 1 : Nat) : Int) by omega)]
    exact Ev.now _
  · by_cases v1 : (v : Int) = 1
    · obtain ⟨l, p3, hl1, hl2, hp3, e4⟩ := signs91_f h (p2 + 1) 0 6 (by omega) (by omega) (by omega) (by omega)
      have sl := size_sgn l
      refine ⟨textOf l [false], p3, few_text (by omega) (by simp) (by simp), by omega, fin ?_⟩
      simp only [if_neg v0, if_pos v1]
      refine Ev.bind e4 ?_
      have e : (⟨(l.map sgn).toArray⟩ : ByteArray) ++ (⟨#[40, 48, 41]⟩ : ByteArray) = textOf l [false] := by
        apply chrs_inj; rw [chrs_append, chrs_textOf]; simp [chrs, sgn]
      simp only [sl, if_pos (show l.length + 3 ≤ 9223372036854775807 by omega), e]
      exact Ev.now _
    · have hz := textOf_size t r
      by_cases v2 : (v : Int) = 2
      · refine ⟨_, p2 + 1, few_cut (t := t) (r := r) (by omega) hr1 (by omega), by omega, fin ?_⟩
        simp only [if_neg v0, if_neg v1, if_pos v2, textOf_eq]
        simp only [if_pos (show (1 : Int) ≤ ((textOf t r).size : Int) by omega), if_pos (show 1 + ((textOf t r).extract 1 (textOf t r).size).size ≤ 9223372036854775807 by simp; omega)]
        exact Ev.now _
      · refine ⟨textOf t r, p2 + 1, few_text (by omega) hr1 (by omega), by omega, fin ?_⟩
        simp only [if_neg v0, if_neg v1, if_neg v2, textOf_eq]
        exact Ev.now _

end Go.Proofs.Ytnmkinnfbbehnaa.P

-- spec.l1Signs and spec.l1Read read what parse tells.
namespace Go.Proofs.Ytnmkinnfbbehnaa.P
open Go.RowKit Go.Proofs.YtnmkinnfbbehnaaW.PrintWords Go.Proofs.YtnmkinnfbbehnaaW.PrintLast Go.Proofs.YtnmkinnfbbehnaaW.PrintMore
set_option linter.unusedVariables false
set_option linter.unusedSimpArgs false
theorem signs_ev (s : ByteArray) (hs : s.size ≤ 70368744177664) : ∀ (d : Nat) (i : Nat) (acc : List Bool), i ≤ s.size → s.size - i = d → acc.length ≤ i →
    Ev (fun k => spec_l1Signs.l0 k s acc i) (match bitsL ((chrs s).drop i) with | some l => (acc ++ l, true) | none => ([], false)) := by
  intro d
  induction d with
  | zero =>
    intro i acc hi hd ha
    refine Ev.step (f := fun k => some (acc, true)) (fun k => ?_) ?_
    · simp only [spec_l1Signs.l0]; rw [if_neg (by omega)]
    · have : (chrs s).drop i = [] := by rw [List.drop_eq_nil_iff, chrs_length]; omega
      rw [this]; simp only [bitsL, List.append_nil]; exact Ev.now _
  | succ d ih =>
    intro i acc hi hd ha
    have hlt : i < s.size := by omega
    have hl : i < (chrs s).length := by rw [chrs_length]; exact hlt
    have hdrop : (chrs s).drop i = (chrs s)[i] :: (chrs s).drop (i + 1) := List.drop_eq_getElem_cons hl
    have hw : wrap64 ((i : Int) + 1) = ((i + 1 : Nat) : Int) := by rw [w64 (by omega) (by omega)]; omega
    have hb := bt_chr s hlt
    rw [hdrop]
    by_cases c0 : (chrs s)[i] = 48
    · have e : bt s (i : Int) = 48 := by rw [hb, c0]; rfl
      refine Ev.step (f := fun k => spec_l1Signs.l0 k s (acc ++ [false]) ((i + 1 : Nat) : Int)) (fun k => ?_) ?_
      · simp only [spec_l1Signs.l0]; rw [if_pos (by omega), if_pos (by omega), if_pos e, if_pos (by omega), hw, e]; rfl
      · have := ih (i + 1) (acc ++ [false]) (by omega) (by omega) (by simp; omega)
        simp only [bitsL, if_pos c0]
        cases h : bitsL ((chrs s).drop (i + 1)) with
        | none => rw [h] at this; exact this
        | some l => rw [h] at this; simpa using this
    · by_cases c1 : (chrs s)[i] = 49
      · have e : bt s (i : Int) = 49 := by rw [hb, c1]; rfl
        refine Ev.step (f := fun k => spec_l1Signs.l0 k s (acc ++ [true]) ((i + 1 : Nat) : Int)) (fun k => ?_) ?_
        · simp only [spec_l1Signs.l0]; rw [if_pos (by omega), if_pos (by omega), if_neg (by omega), if_pos e, if_pos (by omega), hw]
        · have := ih (i + 1) (acc ++ [true]) (by omega) (by omega) (by simp; omega)
          simp only [bitsL, if_neg c0, if_pos c1]
          cases h : bitsL ((chrs s).drop (i + 1)) with
          | none => rw [h] at this; exact this
          | some l => rw [h] at this; simpa using this
      · refine Ev.step (f := fun k => some (([] : List Bool), false)) (fun k => ?_) ?_
        · have e0 : ¬ bt s (i : Int) = 48 := by rw [hb]; intro h; exact c0 ((u8_eq (n := 48) (by omega)).1 h)
          have e1 : ¬ bt s (i : Int) = 49 := by rw [hb]; intro h; exact c1 ((u8_eq (n := 49) (by omega)).1 h)
          simp only [spec_l1Signs.l0]; rw [if_pos (by omega), if_pos (by omega), if_neg e0, if_neg e1]
        · simp only [bitsL, if_neg c0, if_neg c1]; exact Ev.now _

theorem signs_f (s : ByteArray) (hs : s.size ≤ 70368744177664) : Ev (fun k => spec_l1Signs.f k s) (match bitsL (chrs s) with | some l => (l, true) | none => ([], false)) := by
  have := signs_ev s hs s.size 0 [] (by omega) (by omega) (by simp)
  simpa [spec_l1Signs.f] using this
theorem read_j2 (s : ByteArray) (hs : s.size ≤ 70368744177664) (t r : List Bool) (hc : (chrs s).findIdx (· == 40) + 2 < s.size) :
    Ev (fun k => spec_l1Read.j2 k s ((chrs s).findIdx (· == 40) : Nat) (bt s ((s.size - 1 : Nat) : Int) != 41) t r) (parsed s t r) := by
  generalize hp : (chrs s).findIdx (· == 40) = p at hc
  by_cases hl : (chrs s)[s.size - 1]? = some 41
  · have e : (bt s ((s.size - 1 : Nat) : Int) != 41) = false := by
      have := (bt_eq' s (i := s.size - 1) (by omega) 41 (by omega)).2 hl
      rw [this]; decide
    rw [e]
    have w1 : wrap64 ((p : Int) + 1) = ((p + 1 : Nat) : Int) := by rw [w64 (by omega) (by omega)]; omega
    have w2 : wrap64 ((s.size : Int) - 1) = ((s.size - 1 : Nat) : Int) := by rw [w64 (by omega) (by omega)]; omega
    have h1 := signs_f (s.extract 0 p) (by simp; omega)
    have h2 := signs_f (s.extract (p + 1) (s.size - 1)) (by simp; omega)
    rw [chrs_extract] at h1 h2
    simp only [List.drop_zero] at h1
    have hP : parse (chrs s) = match bitsL ((chrs s).take p), bitsL (((chrs s).take (s.size - 1)).drop (p + 1)) with
        | some a, some b => if a.length ≤ 60 ∧ b.length ≤ 60 then some (a, b) else none
        | _, _ => none := by
      unfold parse; rw [hp, chrs_length, if_pos ⟨hc, hl⟩] <;> rfl
    refine Ev.step (f := fun k => (spec_l1Signs.f k (s.extract 0 p)).bind fun bt231 => ((spec_l1Signs.f k (s.extract (p + 1) (s.size - 1))).bind fun bt235 => (if bt231.2 = true then (if bt235.2 = true then (if (bt231.1.length : Int) > 60 then (some (t, r, false)) else (if (bt235.1.length : Int) > 60 then (some (t, r, false)) else (some (bt231.1, bt235.1, true)))) else (some (t, r, false))) else (some (t, r, false))))) (fun k => ?_) ?_
    · simp only [spec_l1Read.j2]
      rw [if_neg (by decide), if_pos (by omega), if_pos (by omega), w1, w2]
      simp only [Int.toNat_natCast]
      congr 1; funext x
      rw [if_pos (by omega), if_pos (by omega), if_pos (by omega)]
    · refine Ev.bind h1 (Ev.bind h2 ?_)
      unfold parsed; rw [hP]
      cases b1 : bitsL ((chrs s).take p) with
      | none => exact Ev.now _
      | some a =>
        cases b2 : bitsL (((chrs s).take (s.size - 1)).drop (p + 1)) with
        | none => exact Ev.now _
        | some b =>
          simp only [if_true]
          by_cases la : a.length ≤ 60
          · by_cases lb : b.length ≤ 60
            · rw [if_neg (by omega), if_neg (by omega), if_pos ⟨la, lb⟩]; exact Ev.now _
            · rw [if_neg (by omega), if_pos (by omega), if_neg (by omega)]; exact Ev.now _
          · rw [if_pos (by omega), if_neg (by omega)]; exact Ev.now _
  · have e : (bt s ((s.size - 1 : Nat) : Int) != 41) = true := by
      rw [bne_iff_ne]; intro h; exact hl ((bt_eq' s (i := s.size - 1) (by omega) 41 (by omega)).1 h)
    rw [e]
    have hP : parse (chrs s) = none := by unfold parse; rw [hp, chrs_length, if_neg (by rintro ⟨_, h⟩; exact hl h)]
    refine Ev.step (f := fun k => some (t, r, false)) (fun k => ?_) ?_
    · simp only [spec_l1Read.j2]; rw [if_pos trivial]
    · unfold parsed; rw [hP]; exact Ev.now _

theorem read_j1 (s : ByteArray) (hs : s.size ≤ 70368744177664) (t r : List Bool) :
    Ev (fun k => spec_l1Read.j1 k s ((chrs s).findIdx (· == 40) : Nat) t r) (parsed s t r) := by
  have hp := (chrs s).findIdx_le_length (p := (· == 40))
  rw [chrs_length] at hp
  by_cases hc : (chrs s).findIdx (· == 40) + 2 < s.size
  · have w2 : wrap64 ((s.size : Int) - 1) = ((s.size - 1 : Nat) : Int) := by rw [w64 (by omega) (by omega)]; omega
    refine Ev.step (fun k => ?_) (read_j2 s hs t r hc)
    simp only [spec_l1Read.j1]
    rw [w2, w64 (x := ((chrs s).findIdx (· == 40) : Int) + 2) (by omega) (by omega), if_neg (by omega), if_pos (by omega), if_pos (by omega)]
  · have hP : parse (chrs s) = none := by unfold parse; rw [chrs_length, if_neg (by rintro ⟨h, _⟩; exact hc h)]
    refine Ev.step (f := fun k => spec_l1Read.j2 k s ((chrs s).findIdx (· == 40) : Nat) true t r) (fun k => ?_) (Ev.step (f := fun k => some (t, r, false)) (fun k => ?_) ?_)
    · simp only [spec_l1Read.j1]
      rw [w64 (x := ((chrs s).findIdx (· == 40) : Int) + 2) (by omega) (by omega), if_pos (by omega)]
    · simp only [spec_l1Read.j2]; rw [if_pos trivial]
    · unfold parsed; rw [hP]; exact Ev.now _

theorem read_l0 (s : ByteArray) (hs : s.size ≤ 70368744177664) (t r : List Bool) : ∀ (d i : Nat), i ≤ (chrs s).findIdx (· == 40) → (chrs s).findIdx (· == 40) - i = d →
    Ev (fun k => spec_l1Read.l0 k s i t r) (parsed s t r) := by
  have hp := (chrs s).findIdx_le_length (p := (· == 40))
  rw [chrs_length] at hp
  intro d
  induction d with
  | zero =>
    intro i hi hd
    have e : (chrs s).findIdx (· == 40) = i := by omega
    refine Ev.step (fun k => ?_) (read_j1 s hs t r)
    simp only [spec_l1Read.l0]
    by_cases hlt : i < s.size
    · have h1 : bt s (i : Int) = 40 := by
        refine (bt_eq s hlt 40 (by omega)).2 ?_
        have := List.findIdx_getElem (p := (· == 40)) (xs := chrs s) (w := by rw [e, chrs_length]; exact hlt)
        simpa [e] using this
      rw [if_pos (by omega), if_pos (by omega), if_pos h1, e]
    · rw [if_neg (by omega), e]
  | succ d ih =>
    intro i hi hd
    have hlt : i < s.size := by omega
    have h1 : ¬ bt s (i : Int) = 40 := by
      refine fun hb => absurd ((bt_eq s hlt 40 (by omega)).1 hb) ?_
      have := List.not_of_lt_findIdx (p := (· == 40)) (xs := chrs s) (i := i) (by omega)
      simpa using this
    have hw : wrap64 ((i : Int) + 1) = ((i + 1 : Nat) : Int) := by rw [w64 (by omega) (by omega)]; omega
    refine Ev.step (fun k => ?_) (ih (i + 1) (by omega) (by omega))
    simp only [spec_l1Read.l0]
    rw [if_pos (by omega), if_pos (by omega), if_neg h1, hw]

theorem read_f (s : ByteArray) (hs : s.size ≤ 70368744177664) : Ev (fun k => spec_l1Read.f k s) (parsed s [] [false]) := by
  have := read_l0 s hs [] [false] _ 0 (by omega) rfl
  simpa [spec_l1Read.f] using this

end Go.Proofs.Ytnmkinnfbbehnaa.P

-- spec.l4Small reads a small set, tidily.
namespace Go.Proofs.Ytnmkinnfbbehnaa.P
open Go.RowKit Go.Proofs.YtnmkinnfbbehnaaW.PrintWords Go.Proofs.YtnmkinnfbbehnaaW.PrintLast Go.Proofs.YtnmkinnfbbehnaaW.PrintMore
set_option linter.unusedVariables false
set_option linter.unusedSimpArgs false

theorem l4small_f (s : ByteArray) (hs : s.size ≤ 70368744177664) : ∃ x y, Ev (fun k => spec_l4Small.f k s) (x, y, smallB (chrs s)) ∧ ((parse (chrs s)).isSome = true → x = (cn (setf (chrs s))).1 ∧ y = (cn (setf (chrs s))).2) := by
  have h := read_f s hs
  unfold parsed at h
  unfold smallB
  cases hp : parse (chrs s) with
  | none =>
    rw [hp] at h
    refine ⟨[], [false], ?_, fun h => by simp at h⟩
    refine Ev.congr (fun k => rfl) (Ev.bind h ?_)
    simp only [Bool.false_eq_true, if_false, Option.isSome_none, Bool.false_and]
    exact Ev.now _
  | some ab =>
    rw [hp] at h
    have hset := setf_some (a := ab.1) (b := ab.2) hp
    have hb := parse_some (a := ab.1) (b := ab.2) hp
    have hl := less_cn ab.1 ab.2 hb.2.2 (by omega)
    refine ⟨(cn (hasB ab.1 ab.2)).1, (cn (hasB ab.1 ab.2)).2, ?_, fun _ => by rw [hset]; exact ⟨rfl, rfl⟩⟩
    refine Ev.congr (fun k => rfl) (Ev.bind h ?_)
    rw [hset, Option.isSome_some, Bool.true_and]
    simp only [if_true]
    refine Ev.bind hl ?_
    by_cases h1 : (cn (hasB ab.1 ab.2)).1.length ≤ 8
    · by_cases h2 : (cn (hasB ab.1 ab.2)).2.length ≤ 8
      · rw [dec_true (show Small _ from ⟨h1, h2⟩)]
        simp only [if_pos (show ((cn (hasB ab.1 ab.2)).1.length : Int) ≤ 8 by omega), decide_eq_true (show ((cn (hasB ab.1 ab.2)).2.length : Int) ≤ 8 by omega)]
        exact Ev.now _
      · rw [dec_false (fun h : Small _ => h2 h.2)]
        simp only [if_pos (show ((cn (hasB ab.1 ab.2)).1.length : Int) ≤ 8 by omega), decide_eq_false (show ¬ ((cn (hasB ab.1 ab.2)).2.length : Int) ≤ 8 by omega)]
        exact Ev.now _
    · rw [dec_false (fun h : Small _ => h1 h.1)]
      simp only [if_neg (show ¬ ((cn (hasB ab.1 ab.2)).1.length : Int) ≤ 8 by omega)]
      exact Ev.now _
end Go.Proofs.Ytnmkinnfbbehnaa.P

-- impl.setOf reads what parse tells.
namespace Go.Proofs.Ytnmkinnfbbehnaa.P
open Go.RowKit Go.Proofs.YtnmkinnfbbehnaaW.PrintWords Go.Proofs.YtnmkinnfbbehnaaW.PrintLast Go.Proofs.YtnmkinnfbbehnaaW.PrintMore
set_option linter.unusedVariables false
set_option linter.unusedSimpArgs false
theorem index1_f (s : ByteArray) (c : UInt8) : stringslite_Index.f s ⟨#[c]⟩ = some (if (chrs s).findIdx (· == c) < s.size then (((chrs s).findIdx (· == c) : Nat) : Int) else -1) := by
  unfold stringslite_Index.f; rw [if_pos (show (⟨#[c]⟩ : ByteArray).size = 1 from rfl)]; rfl
theorem cut_f (s : ByteArray) (c : UInt8) (hs : s.size ≤ 70368744177664) : strings_Cut.f s ⟨#[c]⟩ = some (if (chrs s).findIdx (· == c) < s.size then (s.extract 0 ((chrs s).findIdx (· == c)), s.extract ((chrs s).findIdx (· == c) + 1) s.size, true) else (s, ⟨#[]⟩, false)) := by
  unfold strings_Cut.f stringslite_Cut.f
  rw [index1_f]
  simp only [Option.bind_some]
  generalize (chrs s).findIdx (· == c) = p
  by_cases h : p < s.size
  · rw [if_pos h]
    have hw : wrap64 ((p : Int) + ((⟨#[c]⟩ : ByteArray).size : Int)) = ((p + 1 : Nat) : Int) := by
      have : (⟨#[c]⟩ : ByteArray).size = 1 := rfl
      rw [this, w64 (by omega) (by omega)]; omega
    rw [if_pos (by omega), if_pos (by omega), if_pos (by omega), hw, if_pos (by omega), if_pos (by omega), if_pos h]
    simp only [Int.toNat_natCast, Option.bind_some]
  · rw [if_neg h, if_neg (by omega), if_neg h]; rfl
theorem suffix_f (s : ByteArray) (c : UInt8) (hs : s.size ≤ 70368744177664) : strings_CutSuffix.f s ⟨#[c]⟩ = some (if (chrs s)[s.size - 1]? = some c then (s.extract 0 (s.size - 1), true) else (s, false)) := by
  unfold strings_CutSuffix.f stringslite_CutSuffix.f stringslite_HasSuffix.f
  have h1 : (⟨#[c]⟩ : ByteArray).size = 1 := rfl
  rw [h1]
  by_cases h : s.size = 0
  · rw [if_neg (by omega)]
    have : chrs s = [] := List.eq_nil_of_length_eq_zero (by rw [chrs_length]; exact h)
    simp [this]
  · have hw : wrap64 ((s.size : Int) - ((1 : Nat) : Int)) = ((s.size - 1 : Nat) : Int) := by rw [w64 (by omega) (by omega)]; omega
    rw [if_pos (by omega), hw, if_pos (by omega), if_pos (by omega)]
    simp only [Option.bind_some, Int.toNat_natCast]
    have e : (((s.extract (s.size - 1) s.size).toList == (⟨#[c]⟩ : ByteArray).toList) = true) ↔ (chrs s)[s.size - 1]? = some c := by
      rw [beq_iff_eq, ByteArray.toList_eq, ByteArray.toList_eq]
      show chrs _ = [c] ↔ _
      rw [chrs_extract, List.take_of_length_le (by rw [chrs_length]; omega)]
      have hl : s.size - 1 < (chrs s).length := by rw [chrs_length]; omega
      rw [List.drop_eq_getElem_cons hl, List.drop_of_length_le (by rw [chrs_length]; omega), List.getElem?_eq_getElem hl]
      simp
    by_cases hc : (chrs s)[s.size - 1]? = some c
    · rw [if_pos (e.2 hc), if_pos (by omega), if_pos (by omega), if_pos hc]; rfl
    · rw [if_neg (fun h => hc (e.1 h)), if_neg hc]; rfl

theorem isigns_ev (s : ByteArray) (hs : s.size ≤ 70368744177664) : ∀ (d : Nat) (i : Nat) (acc : List Bool), i ≤ s.size → s.size - i = d → acc.length ≤ i →
    Ev (fun k => impl_signs.l0 k acc (bytesOf s) ((bytesOf s).length : Int) i) (match bitsL ((chrs s).drop i) with | some l => (acc ++ l, decide ((acc ++ l).length ≤ 60)) | none => ([], false)) := by
  intro d
  induction d with
  | zero =>
    intro i acc hi hd ha
    refine Ev.step (f := fun k => some (acc, decide ((acc.length : Int) ≤ 60))) (fun k => ?_) ?_
    · simp only [impl_signs.l0, bytesOf_length]; rw [if_neg (by omega)]
    · have : (chrs s).drop i = [] := by rw [List.drop_eq_nil_iff, chrs_length]; omega
      rw [this]; simp only [bitsL, List.append_nil]
      have e : decide ((acc.length : Int) ≤ 60) = decide (acc.length ≤ 60) := by apply decide_eq_decide.2; omega
      rw [e]; exact Ev.now _
  | succ d ih =>
    intro i acc hi hd ha
    have hlt : i < s.size := by omega
    have hl : i < (chrs s).length := by rw [chrs_length]; exact hlt
    have hdrop : (chrs s).drop i = (chrs s)[i] :: (chrs s).drop (i + 1) := List.drop_eq_getElem_cons hl
    have hw : wrap64 ((i : Int) + 1) = ((i + 1 : Nat) : Int) := by rw [w64 (by omega) (by omega)]; omega
    have hb := bt_chr s hlt
    rw [hdrop]
    by_cases c0 : (chrs s)[i] = 48
    · have e : bt s (i : Int) = 48 := by rw [hb, c0]; rfl
      refine Ev.step (f := fun k => impl_signs.l0 k (acc ++ [false]) (bytesOf s) ((bytesOf s).length : Int) ((i + 1 : Nat) : Int)) (fun k => ?_) ?_
      · simp only [impl_signs.l0, bytesOf_length, rd_bytesOf]; rw [if_pos (by omega), if_pos (by omega), if_pos (by omega), if_pos e, if_pos (by omega), hw, e]; rfl
      · have := ih (i + 1) (acc ++ [false]) (by omega) (by omega) (by simp; omega)
        simp only [bitsL, if_pos c0]
        cases h : bitsL ((chrs s).drop (i + 1)) with
        | none => rw [h] at this; exact this
        | some l => rw [h] at this; simpa using this
    · by_cases c1 : (chrs s)[i] = 49
      · have e : bt s (i : Int) = 49 := by rw [hb, c1]; rfl
        refine Ev.step (f := fun k => impl_signs.l0 k (acc ++ [true]) (bytesOf s) ((bytesOf s).length : Int) ((i + 1 : Nat) : Int)) (fun k => ?_) ?_
        · simp only [impl_signs.l0, bytesOf_length, rd_bytesOf]; rw [if_pos (by omega), if_pos (by omega), if_pos (by omega), if_neg (by omega), if_pos e, if_pos (by omega), hw]
        · have := ih (i + 1) (acc ++ [true]) (by omega) (by omega) (by simp; omega)
          simp only [bitsL, if_neg c0, if_pos c1]
          cases h : bitsL ((chrs s).drop (i + 1)) with
          | none => rw [h] at this; exact this
          | some l => rw [h] at this; simpa using this
      · refine Ev.step (f := fun k => some (([] : List Bool), false)) (fun k => ?_) ?_
        · have e0 : ¬ bt s (i : Int) = 48 := by rw [hb]; intro h; exact c0 ((u8_eq (n := 48) (by omega)).1 h)
          have e1 : ¬ bt s (i : Int) = 49 := by rw [hb]; intro h; exact c1 ((u8_eq (n := 49) (by omega)).1 h)
          simp only [impl_signs.l0, bytesOf_length, rd_bytesOf]; rw [if_pos (by omega), if_pos (by omega), if_pos (by omega), if_neg e0, if_neg e1]
        · simp only [bitsL, if_neg c0, if_neg c1]; exact Ev.now _

/-- What impl.signs answers. -/
def sgns (s : List UInt8) : List Bool × Bool := match bitsL s with | some l => (l, decide (l.length ≤ 60)) | none => ([], false)
theorem isigns_f (s : ByteArray) (hs : s.size ≤ 70368744177664) : Ev (fun k => impl_signs.f k s) (sgns (chrs s)) := by
  have := isigns_ev s hs s.size 0 [] (by omega) (by omega) (by simp)
  unfold sgns
  refine Ev.congr (fun k => ?_) (by simpa using this)
  unfold impl_signs.f bytesConv.f; rw [if_pos hs]; simp only [Option.bind_some, bytesOf_length]

/-- What impl.setOf answers, out of its parts. -/
def setFin (o e : Bool) (X Y : List Bool × Bool) : List Bool × List Bool × Bool := (X.1, Y.1, o && e && X.2 && Y.2 && decide (0 < Y.1.length))
theorem setOf_ev (s A R B : ByteArray) (o e : Bool) (h1 : strings_Cut.f s ⟨#[40]⟩ = some (A, R, o)) (h2 : strings_CutSuffix.f R ⟨#[41]⟩ = some (B, e)) (hA : A.size ≤ 70368744177664) (hB : B.size ≤ 70368744177664) :
    Ev (fun k => impl_setOf.f k s) (setFin o e (sgns (chrs A)) (sgns (chrs B))) := by
  refine Ev.congr (f := fun k => (impl_signs.f k A).bind fun X => (impl_signs.f k B).bind fun Y => some (setFin o e X Y)) (fun k => ?_) (Ev.bind (isigns_f A hA) (Ev.bind (isigns_f B hB) (Ev.now _)))
  unfold impl_setOf.f
  rw [h1]
  simp only [Option.bind_some]
  rw [h2]
  simp only [Option.bind_some]
  congr 1; funext X; congr 1; funext Y
  unfold setFin
  have ed : decide ((Y.1.length : Int) > 0) = decide (0 < Y.1.length) := by apply decide_eq_decide.2; omega
  rw [ed]
  cases o <;> cases e <;> rcases X with ⟨x, _ | _⟩ <;> rcases Y with ⟨y, _ | _⟩ <;> simp

theorem setOf_f (s : ByteArray) (hs : s.size ≤ 70368744177664) : ∃ x y, Ev (fun k => impl_setOf.f k s) (x, y, (parse (chrs s)).isSome) ∧ ∀ a b, parse (chrs s) = some (a, b) → x = a ∧ y = b := by
  have hp := (chrs s).findIdx_le_length (p := (· == 40))
  rw [chrs_length] at hp
  have h1 := cut_f s 40 hs
  -- out of the parts
  have fin : ∀ A R B o e, strings_Cut.f s ⟨#[40]⟩ = some (A, R, o) → strings_CutSuffix.f R ⟨#[41]⟩ = some (B, e) → A.size ≤ s.size → B.size ≤ s.size → (setFin o e (sgns (chrs A)) (sgns (chrs B))).2.2 = (parse (chrs s)).isSome → (∀ a b, parse (chrs s) = some (a, b) → (sgns (chrs A)).1 = a ∧ (sgns (chrs B)).1 = b) →
      ∃ x y, Ev (fun k => impl_setOf.f k s) (x, y, (parse (chrs s)).isSome) ∧ ∀ a b, parse (chrs s) = some (a, b) → x = a ∧ y = b := fun A R B o e g1 g2 g3 g4 g5 g6 => by
    have := setOf_ev s A R B o e g1 g2 (by omega) (by omega)
    refine ⟨(sgns (chrs A)).1, (sgns (chrs B)).1, ?_, g6⟩
    rw [← g5]; exact this
  by_cases h : (chrs s).findIdx (· == 40) < s.size
  · rw [if_pos h] at h1
    have hsz : (s.extract ((chrs s).findIdx (· == 40) + 1) s.size).size = s.size - ((chrs s).findIdx (· == 40) + 1) := by simp
    have h2 := suffix_f (s.extract ((chrs s).findIdx (· == 40) + 1) s.size) 41 (by omega)
    have he : (chrs (s.extract ((chrs s).findIdx (· == 40) + 1) s.size))[(s.extract ((chrs s).findIdx (· == 40) + 1) s.size).size - 1]? = if (chrs s).findIdx (· == 40) + 1 < s.size then (chrs s)[s.size - 1]? else none := by
      rw [chrs_extract, List.take_of_length_le (by rw [chrs_length]; omega), hsz, List.getElem?_drop]
      split
      · congr 1; omega
      · exact List.getElem?_eq_none (by rw [chrs_length]; omega)
    rw [he] at h2
    have hP : parse (chrs s) = if (chrs s).findIdx (· == 40) + 2 < s.size ∧ (chrs s)[s.size - 1]? = some 41 then
        match bitsL ((chrs s).take ((chrs s).findIdx (· == 40))), bitsL (((chrs s).take (s.size - 1)).drop ((chrs s).findIdx (· == 40) + 1)) with
        | some a, some b => if a.length ≤ 60 ∧ b.length ≤ 60 then some (a, b) else none
        | _, _ => none else none := by unfold parse; rw [chrs_length] <;> rfl
    have hc1 : chrs (s.extract 0 ((chrs s).findIdx (· == 40))) = (chrs s).take ((chrs s).findIdx (· == 40)) := by rw [chrs_extract, List.drop_zero]
    have hA : (s.extract 0 ((chrs s).findIdx (· == 40))).size ≤ s.size := by simp; omega
    generalize hq : (chrs s).findIdx (· == 40) = p at *
    by_cases h3 : (if p + 1 < s.size then (chrs s)[s.size - 1]? else none) = some 41
    · rw [if_pos h3] at h2
      have h4 : p + 1 < s.size := by
        refine Classical.byContradiction fun hn => ?_
        rw [if_neg hn] at h3; cases h3
      rw [if_pos h4] at h3
      have hc2 : chrs ((s.extract (p + 1) s.size).extract 0 ((s.extract (p + 1) s.size).size - 1)) = ((chrs s).take (s.size - 1)).drop (p + 1) := by
        rw [chrs_extract, chrs_extract, List.drop_zero, show (chrs s).take s.size = chrs s from List.take_of_length_le (by rw [chrs_length]; omega), hsz, List.drop_take]
        congr 1; omega
      have hl2 : (((chrs s).take (s.size - 1)).drop (p + 1)).length = s.size - 1 - (p + 1) := by rw [List.length_drop, List.length_take, chrs_length]; omega
      have hP2 : parse (chrs s) = match bitsL ((chrs s).take p), bitsL (((chrs s).take (s.size - 1)).drop (p + 1)) with
          | some a, some b => if p + 2 < s.size ∧ (a.length ≤ 60 ∧ b.length ≤ 60) then some (a, b) else none
          | _, _ => none := by
        rw [hP]
        by_cases h5 : p + 2 < s.size
        · rw [if_pos ⟨h5, h3⟩]
          split <;> simp_all
        · rw [if_neg (by rintro ⟨x, _⟩; exact h5 x)]
          split
          · rw [if_neg (by rintro ⟨x, _⟩; exact h5 x)]
          · rfl
      refine fin _ _ _ _ _ h1 h2 hA (by simp; omega) ?_ ?_
      · rw [hc1, hc2, hP2]
        unfold setFin sgns
        cases b1 : bitsL ((chrs s).take p) with
        | none => simp
        | some a =>
          cases b2 : bitsL (((chrs s).take (s.size - 1)).drop (p + 1)) with
          | none => simp
          | some b =>
            have hbl := bitsL_length b2
            rw [hl2] at hbl
            have hb0 : decide (0 < b.length) = decide (p + 2 < s.size) := by apply decide_eq_decide.2; omega
            simp only [hb0]
            by_cases la : a.length ≤ 60 <;> by_cases lb : b.length ≤ 60 <;> by_cases h5 : p + 2 < s.size <;> simp [la, lb, h5]
      · rw [hc1, hc2, hP2]
        unfold sgns
        intro a' b' hab
        cases b1 : bitsL ((chrs s).take p) with
        | none => rw [b1] at hab; cases hab
        | some a =>
          cases b2 : bitsL (((chrs s).take (s.size - 1)).drop (p + 1)) with
          | none => rw [b1, b2] at hab; cases hab
          | some b =>
            rw [b1, b2] at hab
            simp only at hab
            split at hab
            · simp only [Option.some.injEq, Prod.mk.injEq] at hab; exact hab
            · cases hab
    · rw [if_neg h3] at h2
      have hPn : parse (chrs s) = none := by
        rw [hP, if_neg]
        rintro ⟨x, y⟩
        exact h3 (by rw [if_pos (by omega)]; exact y)
      refine fin _ _ _ _ _ h1 h2 hA (by simp) ?_ ?_
      · rw [hPn]; simp [setFin]
      · intro a b hab; rw [hPn] at hab; cases hab
  · rw [if_neg h] at h1
    have hPn : parse (chrs s) = none := by
      unfold parse; rw [chrs_length, if_neg]; rintro ⟨x, _⟩; omega
    have h2 := suffix_f (⟨#[]⟩ : ByteArray) 41 (by decide)
    rw [if_neg (by rw [byteArray_empty_chrs]; simp)] at h2
    refine fin _ _ _ _ _ h1 h2 (Nat.le_refl _) (by show 0 ≤ _; omega) ?_ ?_
    · rw [hPn]; simp [setFin]
    · intro a b hab; rw [hPn] at hab; cases hab

end Go.Proofs.Ytnmkinnfbbehnaa.P

-- spec.StarGap.
namespace Go.Proofs.Ytnmkinnfbbehnaa.P
open Go.RowKit Go.Proofs.YtnmkinnfbbehnaaW.PrintWords Go.Proofs.YtnmkinnfbbehnaaW.PrintLast Go.Proofs.YtnmkinnfbbehnaaW.PrintMore
set_option linter.unusedVariables false
set_option linter.unusedSimpArgs false

theorem gap_l1 (q : Nat → Bool) (m : Nat) (hm : 0 < m) (hq : q m = false) : ∀ (d i : Nat), i - m = d → m ≤ i → i < 2440 → (∀ j, m < j → j ≤ i → q j = true) → Ev (fun k => spec_StarGap.l1 k (mkT q 2440) i) ((m : Int), true) := by
  have hlen := mkT_length q 2440
  intro d
  induction d with
  | zero =>
    intro i hi h1 h2 h3
    obtain rfl : i = m := by omega
    refine Ev.step (f := fun k => some ((i : Int), true)) (fun k => ?_) (Ev.now _)
    simp only [spec_StarGap.l1]
    rw [if_pos (by omega), if_pos (by omega), if_pos (by omega), rdOf_nat, mkT_get q h2, hq, if_neg (by decide)]
  | succ d ih =>
    intro i hi h1 h2 h3
    have h := ih (i - 1) (by omega) (by omega) (by omega) (fun j a b => h3 j a (by omega))
    refine Ev.step (fun k => ?_) h
    simp only [spec_StarGap.l1]
    rw [if_pos (by omega), if_pos (by omega), if_pos (by omega), rdOf_nat, mkT_get q h2, h3 i (by omega) (Nat.le_refl _), if_pos rfl, wpred (by omega) (by omega)]
theorem gap_l1z (q : Nat → Bool) (hq : ∀ j, j < 2400 → q j = true) : ∀ (i : Nat), i < 2400 → Ev (fun k => spec_StarGap.l1 k (mkT q 2440) i) (0, false) := by
  have hlen := mkT_length q 2440
  intro i
  induction i with
  | zero =>
    intro _
    refine Ev.step (f := fun k => some (0, false)) (fun k => ?_) (Ev.now _)
    simp only [spec_StarGap.l1]
    rw [if_neg (by omega)]
  | succ i ih =>
    intro hi
    refine Ev.step (fun k => ?_) (ih (by omega))
    simp only [spec_StarGap.l1]
    rw [if_pos (by omega), if_pos (by omega), if_pos (by omega), rdOf_nat, mkT_get q (by omega), hq (i + 1) (by omega), if_pos rfl, wpred (by omega) (by omega)]; rfl
theorem gap_l0 (q : Nat → Bool) (v : Int × Bool) (hv : Ev (fun k => spec_StarGap.l1 k (mkT q 2440) 2399) v) (h : ∀ n, 2400 ≤ n → n < 2440 → q n = true) : ∀ (d i : Nat), 2440 - i = d → 2400 ≤ i → i ≤ 2440 → Ev (fun k => spec_StarGap.l0 k (mkT q 2440) i) v := by
  have hlen := mkT_length q 2440
  intro d
  induction d with
  | zero =>
    intro i hi h1 h2
    refine Ev.step (fun k => ?_) hv
    simp only [spec_StarGap.l0]
    rw [if_neg (by omega)]
  | succ d ih =>
    intro i hi h1 h2
    refine Ev.step (fun k => ?_) (ih (i + 1) (by omega) (by omega) (by omega))
    simp only [spec_StarGap.l0]
    rw [if_pos (by omega), if_pos (by omega), if_pos (by omega), rdOf_nat, mkT_get q (by omega), h i h1 (by omega), if_pos rfl, wsucc (by omega)]
theorem gap_l0f (q : Nat → Bool) : ∀ (d i : Nat), 2440 - i = d → 2400 ≤ i → i ≤ 2440 → (∃ n, i ≤ n ∧ n < 2440 ∧ q n = false) → Ev (fun k => spec_StarGap.l0 k (mkT q 2440) i) (0, false) := by
  have hlen := mkT_length q 2440
  intro d
  induction d with
  | zero =>
    intro i hi h1 h2 h3
    obtain ⟨n, a, b, c⟩ := h3
    omega
  | succ d ih =>
    intro i hi h1 h2 h3
    cases hq : q i with
    | false =>
      refine Ev.step (f := fun k => some (0, false)) (fun k => ?_) (Ev.now _)
      simp only [spec_StarGap.l0]
      rw [if_pos (by omega), if_pos (by omega), if_pos (by omega), rdOf_nat, mkT_get q (by omega), hq, if_neg (by decide)]
    | true =>
      obtain ⟨n, a, b, c⟩ := h3
      have hne : n ≠ i := fun e => by rw [e, hq] at c; cases c
      refine Ev.step (fun k => ?_) (ih (i + 1) (by omega) (by omega) (by omega) ⟨n, by omega, b, c⟩)
      simp only [spec_StarGap.l0]
      rw [if_pos (by omega), if_pos (by omega), if_pos (by omega), rdOf_nat, mkT_get q (by omega), hq, if_pos rfl, wsucc (by omega)]
theorem sstarGap_f (s : ByteArray) (hs : s.size ≤ 70368744177664) : Ev (fun k => spec_StarGap.f k s) (gapr (chrs s)) := by
  obtain ⟨x, y, hev, hxy⟩ := l4small_f s hs
  refine Ev.congr (fun k => rfl) (Ev.bind hev ?_)
  unfold gapr
  cases hb : smallB (chrs s) with
  | false =>
    simp only [Bool.false_eq_true, if_false]
    refine Ev.step (f := fun k => some (0, false)) (fun k => ?_) (Ev.now _)
    simp only [spec_StarGap.j0]; rw [if_pos (by trivial)]
  | true =>
    simp only [if_true]
    obtain ⟨a, c, hp, hset, hm1, hm2, hpos, hper⟩ := smallB_ok hb
    obtain ⟨rfl, rfl⟩ := hxy (by rw [hp]; rfl)
    have hh1 : hasB (cn (setf (chrs s))).1 (cn (setf (chrs s))).2 = setf (chrs s) := by rw [hset]; exact cn_has (parse_per hp).1 (parse_per hp).2
    have hst := l4star_f (cn (setf (chrs s))).1 (cn (setf (chrs s))).2 (List.length_pos_iff.1 hpos) (by omega) (by omega) 2440 (by omega) (by omega)
    obtain ⟨d, hd⟩ := least_exists hpos hper
    have hl := l4least_f (cn (setf (chrs s))).1 (cn (setf (chrs s))).2 (List.length_pos_iff.1 hpos) hm1 hm2 (d := d) (by rw [hh1]; exact hd)
    have hdle := isLeast_le hpos hper hd
    have hpp := stz_per hm1 hpos hm2 hper hd true
    rw [stz_true] at hpp
    rw [hh1] at hst
    refine Ev.bind hl ?_
    by_cases hd0 : d = 0
    · subst hd0
      have hnone : ∀ k, 0 < k → setf (chrs s) k = false := by
        rcases hd with ⟨_, h⟩ | ⟨h, _⟩
        · exact h
        · omega
      rw [stq_none hnone, gap_none]
      refine Ev.step (f := fun k => some (0, false)) (fun k => ?_) (Ev.now _)
      simp only [spec_StarGap.j0]; rw [if_pos (by decide)]
    · have e1 : ((d : Int) == 0) = false := by rw [beq_eq_false_iff_ne]; omega
      rw [e1]
      have main : Ev (fun k => spec_StarGap.l0 k (mkT (stq (setf (chrs s))) 2440) 2400) (gap (stq (setf (chrs s)))) := by
        rcases gap_spec (p := max d 1) (by omega) (by omega) hpp (stq_iff.2 (St.zero _)) with ⟨n, a1, a2, a3, a4⟩ | ⟨a1, ⟨m, b1, b2, b3, b4, b5⟩ | ⟨b1, b2⟩⟩
        · rw [a4]; exact gap_l0f _ _ 2400 rfl (by omega) (by omega) ⟨n, a1, a2, a3⟩
        · rw [b5]; exact gap_l0 _ _ (gap_l1 _ m b1 b3 _ 2399 rfl (by omega) (by omega) (fun j x y => b4 j x (by omega))) a1 _ 2400 rfl (by omega) (by omega)
        · rw [b2]; exact gap_l0 _ _ (gap_l1z _ b1 2399 (by omega)) a1 _ 2400 rfl (by omega) (by omega)
      refine Ev.step (f := fun k => (spec_l4Star.f k (cn (setf (chrs s))).1 (cn (setf (chrs s))).2 2440).bind fun t => spec_StarGap.l0 k t 2400) (fun k => ?_) (Ev.bind hst main)
      simp only [spec_StarGap.j0]; rw [if_neg (by decide)]
end Go.Proofs.Ytnmkinnfbbehnaa.P

-- impl.star marks the numbers of a star; impl.set.least.
namespace Go.Proofs.Ytnmkinnfbbehnaa.P
open Go.RowKit Go.Proofs.YtnmkinnfbbehnaaW.PrintWords Go.Proofs.YtnmkinnfbbehnaaW.PrintLast Go.Proofs.YtnmkinnfbbehnaaW.PrintMore
set_option linter.unusedVariables false
set_option linter.unusedSimpArgs false

/-- Whether a number is 0, or a part less than k and one of the star. -/
noncomputable def stU (f : Nat → Bool) (n k : Nat) : Bool := dec (n = 0 ∨ ∃ j, 1 ≤ j ∧ j < k ∧ j ≤ n ∧ f j = true ∧ stq f (n - j) = true)
theorem stU_true {f : Nat → Bool} {n k : Nat} (h : stU f n k = true) : stq f n = true := by
  rcases dec_iff.1 h with rfl | ⟨j, h1, h2, h3, h4, h5⟩
  · exact stq_iff.2 (St.zero f)
  · have := (St.of (by omega) h4).add (stq_iff.1 h5)
    rw [show j + (n - j) = n by omega] at this
    exact stq_iff.2 this
theorem stU_end {f : Nat → Bool} {n k : Nat} (hk : n < k) : stU f n k = stq f n := by
  rw [Bool.eq_iff_iff]
  constructor
  · exact stU_true
  · intro h
    rcases Nat.eq_zero_or_pos n with rfl | hn
    · exact dec_true (.inl rfl)
    · obtain ⟨j, h1, h2, h3, h4⟩ := (stq_iff.1 h).step hn
      exact dec_true (.inr ⟨j, h1, by omega, h2, h3, stq_iff.2 h4⟩)
theorem stU_step {f : Nat → Bool} {n k : Nat} (h1 : 1 ≤ k) (hk : k ≤ n) (h : stU f n k = false) : stU f n (k + 1) = (f k && stq f (n - k)) := by
  rw [Bool.eq_iff_iff, Bool.and_eq_true]
  constructor
  · intro h2
    rcases dec_iff.1 h2 with h3 | ⟨j, a, b, c, d, e⟩
    · omega
    · rcases Nat.lt_or_ge j k with x | x
      · have : stU f n k = true := dec_true (.inr ⟨j, a, x, c, d, e⟩)
        rw [h] at this; cases this
      · rw [show j = k by omega] at d e; exact ⟨d, e⟩
  · rintro ⟨a, b⟩; exact dec_true (.inr ⟨k, h1, by omega, hk, a, b⟩)
theorem stU_one {f : Nat → Bool} {n : Nat} : stU f n 1 = ((n : Int) == 0) := by
  rw [Bool.eq_iff_iff, beq_iff_eq]
  constructor
  · intro h
    rcases dec_iff.1 h with rfl | ⟨j, a, b, _⟩
    · rfl
    · omega
  · intro h; exact dec_true (.inl (by omega))
theorem star_l1 (a b : List Bool) (hb : b ≠ []) (h1 : a.length ≤ 60) (h2 : b.length ≤ 60) (n m N : Nat) (hn : n ≤ 100000) (hm : m ≤ 100000) (v : List Bool)
    (hv : Ev (fun k => impl_star.l0 k (mid (stq (hasB a b)) n (stq (hasB a b) n) m) N ((n + 1 : Nat) : Int) a b) v) : ∀ (e i : Nat), 1 ≤ i → i ≤ n + 1 → n + 1 - i = e →
    Ev (fun k => impl_star.l1 k (mid (stq (hasB a b)) n (stU (hasB a b) n i) m) n i N n a b) v := by
  have HV := Aside0.mk hv
  clear hv
  have cl : (n : Int) < ((mid (stq (hasB a b)) n true m).length : Int) := by rw [mid_length]; omega
  have c5 : n ≤ 4611686018427387904 := by omega
  have hlen : ∀ u u', ((mid (stq (hasB a b)) n u m).length : Int) = ((mid (stq (hasB a b)) n u' m).length : Int) := fun u u' => by rw [mid_length, mid_length]
  have c6 : (0 : Int) ≤ (n : Int) := by omega
  intro e
  induction e with
  | zero =>
    intro i hi1 hi he
    rw [stU_end (by omega)]
    refine Ev.step (fun k => ?_) HV.out
    simp only [impl_star.l1]
    rw [if_neg (by omega), wsucc c5]
  | succ e ih =>
    intro i hi1 hi he
    have d1 : (i : Int) ≤ (n : Int) := by omega
    have d2 : i ≤ n := by omega
    have d3 : i ≤ 4611686018427387904 := by omega
    have hih := ih (i + 1) (by omega) (by omega) (by omega)
    have e1 := ihas_f a b hb (by omega) i (by omega)
    have d4 : ((n - i : Nat) : Int) < ((mid (stq (hasB a b)) n false m).length : Int) := by rw [mid_length]; omega
    have d5 : (0 : Int) ≤ ((n - i : Nat) : Int) := by omega
    have d6 : n - i < n := by omega
    cases hu : stU (hasB a b) n i with
    | true =>
      have hq := stU_true hu
      have hv := HV.out
      rw [hq] at hv
      refine Ev.step (fun k => ?_) hv
      simp only [impl_star.l1]
      rw [if_pos d1, if_pos c6, if_pos cl, rdOf_nat, mid_self, if_pos (by trivial), wsucc c5]
    | false =>
      rw [stU_step hi1 d2 hu] at hih
      refine Ev.step (fun k => ?_) hih
      simp only [impl_star.l1]
      rw [if_pos d1, if_pos c6, hlen false true, if_pos cl, rdOf_nat, mid_self, if_neg (by decide), e1, Option.bind_some]
      cases hf : hasB a b i with
      | true =>
        rw [if_pos (by trivial), wsub d2 c5, if_pos d5, ← hlen false true, if_pos d4, rdOf_nat, mid_lt _ d6, Int.toNat_natCast, mid_set, wsucc d3, Bool.true_and]
      | false =>
        rw [if_neg (by decide), Int.toNat_natCast, mid_set, wsucc d3, Bool.false_and]
theorem star_l0 (a b : List Bool) (hb : b ≠ []) (h1 : a.length ≤ 60) (h2 : b.length ≤ 60) : ∀ (m n : Nat), n + m + 1 ≤ 100000 →
    Ev (fun k => impl_star.l0 k (mid (stq (hasB a b)) n false m) ((n + m + 1 : Nat) : Int) n a b) (mkT (stq (hasB a b)) (n + m + 1)) := by
  intro m
  induction m with
  | zero =>
    intro n hn
    have hfin : Ev (fun k => impl_star.l0 k (mid (stq (hasB a b)) n (stq (hasB a b) n) 0) ((n + 0 + 1 : Nat) : Int) ((n + 1 : Nat) : Int) a b) (mkT (stq (hasB a b)) (n + 0 + 1)) := by
      rw [mid_end]
      refine Ev.step (f := fun k => some (mkT (stq (hasB a b)) (n + 1))) (fun k => ?_) (Ev.now _)
      simp only [impl_star.l0]; rw [if_neg (Int.lt_irrefl _)]
    have hx := star_l1 a b hb h1 h2 n 0 (n + 0 + 1) (by omega) (by omega) _ hfin _ 1 (Nat.le_refl _) (by omega) rfl
    rw [stU_one] at hx
    have hl : ((mid (stq (hasB a b)) n false 0).length : Int) = ((n + 1 : Nat) : Int) := by rw [mid_length]
    refine Ev.step (fun k => ?_) hx
    simp only [impl_star.l0]
    rw [if_pos (by omega), if_pos (by omega), hl, if_pos (by omega), Int.toNat_natCast, mid_set]; rfl
  | succ m ih =>
    intro n hn
    have hih := ih (n + 1) (by omega)
    rw [← mid_next, show n + 1 + m + 1 = n + (m + 1) + 1 by omega] at hih
    have hx := star_l1 a b hb h1 h2 n (m + 1) (n + (m + 1) + 1) (by omega) (by omega) _ hih _ 1 (Nat.le_refl _) (by omega) rfl
    rw [stU_one] at hx
    have hl : ((mid (stq (hasB a b)) n false (m + 1)).length : Int) = ((n + 1 + (m + 1) : Nat) : Int) := by rw [mid_length]
    refine Ev.step (fun k => ?_) hx
    simp only [impl_star.l0]
    rw [if_pos (by omega), if_pos (by omega), hl, if_pos (by omega), Int.toNat_natCast, mid_set]; rfl
theorem star_f (a b : List Bool) (hb : b ≠ []) (h1 : a.length ≤ 60) (h2 : b.length ≤ 60) (N : Nat) (h0 : 0 < N) (hN : N ≤ 100000) : Ev (fun k => impl_star.f k a b N) (mkT (stq (hasB a b)) N) := by
  have h := star_l0 a b hb h1 h2 (N - 1) 0 (by omega)
  rw [show 0 + (N - 1) + 1 = N by omega, ← mid_start, show N - 1 + 1 = N by omega] at h
  refine Ev.congr (fun k => ?_) h
  unfold impl_star.f
  rw [if_pos (by omega), Int.toNat_natCast, if_pos (by omega), Option.bind_some, List.length_replicate]; rfl
end Go.Proofs.Ytnmkinnfbbehnaa.P

-- impl.turns and tidy come to the tidy form.
namespace Go.Proofs.Ytnmkinnfbbehnaa.P
open Go.RowKit Go.Proofs.YtnmkinnfbbehnaaW.PrintWords Go.Proofs.YtnmkinnfbbehnaaW.PrintLast Go.Proofs.YtnmkinnfbbehnaaW.PrintMore
set_option linter.unusedVariables false
set_option linter.unusedSimpArgs false
theorem turns_l0 (r : List Bool) (d : Nat) (hd : 0 < d) (hdl : d ≤ r.length) (hl : r.length ≤ 70368744177664) : ∀ (m i : Nat), i ≤ r.length → r.length - i = m →
    (∀ j, j < i → r.getD j false = r.getD (j % d) false) → ∃ b, Ev (fun k => impl_turns.l0 k r d r.length i) b ∧ (b = true ↔ IsPer r d) := by
  intro m
  induction m with
  | zero =>
    intro i h1 h2 h3
    have e : i = r.length := by omega
    refine ⟨((r.length : Int) % (d : Int)) == 0, Ev.step (f := fun k => some (((r.length : Int) % (d : Int)) == 0)) (fun k => ?_) (Ev.now _), ?_⟩
    · simp only [impl_turns.l0]; rw [if_neg (by omega), if_neg (by omega)]
    · have hm : (r.length : Int) % (d : Int) = ((r.length % d : Nat) : Int) := rfl
      rw [beq_iff_eq, hm]
      constructor
      · intro h; exact IsPer.of_mod (by omega) hd (fun j hj => h3 j (by omega))
      · intro h; have := h.1; omega
  | succ m ih =>
    intro i h1 h2 h3
    have hmod : Int.tmod (i : Int) (d : Int) = ((i % d : Nat) : Int) := by rw [Int.tmod_eq_emod_of_nonneg (by omega)]; rfl
    have hml := Nat.mod_lt i hd
    have hw : wrap64 ((i : Int) + 1) = ((i + 1 : Nat) : Int) := by rw [w64 (by omega) (by omega)]; omega
    by_cases he : r.getD i false = r.getD (i % d) false
    · obtain ⟨b, hb, hbi⟩ := ih (i + 1) (by omega) (by omega) (fun j hj => by
        rcases Nat.lt_or_ge j i with h | h
        · exact h3 j h
        · have : j = i := by omega
          subst this; exact he)
      refine ⟨b, Ev.step (fun k => ?_) hb, hbi⟩
      simp only [impl_turns.l0]
      rw [if_pos (by omega), if_pos (by omega), if_pos (by omega), if_neg (by omega), hmod, if_pos (by omega), if_pos (by omega), rdOf_nat, rdOf_nat, if_neg (by rw [he]; simp), hw]
    · refine ⟨false, Ev.step (f := fun k => some false) (fun k => ?_) (Ev.now _), ?_⟩
      · simp only [impl_turns.l0]
        rw [if_pos (by omega), if_pos (by omega), if_pos (by omega), if_neg (by omega), hmod, if_pos (by omega), if_pos (by omega), rdOf_nat, rdOf_nat, if_pos (by rw [bne_iff_ne]; exact he)]
      · constructor
        · intro h; exact absurd h (by decide)
        · intro h; exact absurd (h.mod hd i (by omega)) he
theorem turns_f (r : List Bool) (d : Nat) (hd : 0 < d) (hdl : d ≤ r.length) (hl : r.length ≤ 70368744177664) : ∃ b, Ev (fun k => impl_turns.f k r d) b ∧ (b = true ↔ IsPer r d) := by
  obtain ⟨b, h, hb⟩ := turns_l0 r d hd hdl hl _ 0 (by omega) rfl (fun j hj => by omega)
  exact ⟨b, by simpa [impl_turns.f] using h, hb⟩
theorem clone_f (l : List Bool) (h : l.length ≤ 70368744177664) : slices_Clone_bool_bool.f l = some l := by unfold slices_Clone_bool_bool.f; rw [if_pos h]

theorem tidy_l1 : ∀ (n : Nat) (t r : List Bool), t.length = n → Prim r → t.length + r.length ≤ 70368744177664 → ∃ t' r', Ev (fun k => impl_set_tidy.l1 k r.length t r) (t', r') ∧ Tidy t r t' r' := by
  intro n
  induction n with
  | zero =>
    intro t r hn hp hl
    have ht : t = [] := List.eq_nil_of_length_eq_zero hn
    subst ht
    refine ⟨[], r, Ev.step (f := fun k => some (([] : List Bool), r)) (fun k => ?_) (Ev.now _), ⟨hp, .inl rfl⟩, fun _ => rfl, Nat.le_refl _, Nat.le_refl _⟩
    simp only [impl_set_tidy.l1]; rw [if_neg (by simp)]
  | succ n ih =>
    intro t r hn hp hl
    have hr := hp.1
    have hpos := List.length_pos_iff.2 hr
    have ht : t ≠ [] := by intro e; rw [e] at hn; simp at hn
    have w1 : wrap64 ((t.length : Int) - 1) = ((t.length - 1 : Nat) : Int) := by rw [w64 (by omega) (by omega)]; omega
    have w2 : wrap64 ((r.length : Int) - 1) = ((r.length - 1 : Nat) : Int) := by rw [w64 (by omega) (by omega)]; omega
    by_cases he : t.getD (t.length - 1) false = r.getD (r.length - 1) false
    · obtain ⟨t', r', hev, htd⟩ := ih (t.take (t.length - 1)) (rotR r) (by rw [List.length_take]; omega) (prim_rot hp) (by rw [rotR_length hr, List.length_take]; omega)
      rw [rotR_length hr] at hev
      refine ⟨t', r', Ev.step (fun k => ?_) hev, htd.canon, fun x => by rw [htd.has, rot_has ht hr he], by have := htd.tl; rw [List.length_take] at this; omega, by have := htd.rl; rw [rotR_length hr] at this; omega⟩
      simp only [impl_set_tidy.l1]
      rw [if_pos (by omega), w1, w2, if_pos (by omega), if_pos (by omega), if_pos (by omega), if_pos (by omega), rdOf_nat, rdOf_nat, if_pos (by rw [he]; exact beq_self_eq_true _), if_pos (by omega)]
      simp only [Option.bind_some]
      rw [if_pos (by omega)]
      simp only [Int.toNat_natCast]
      rw [if_pos (by simp; omega)]
      rfl
    · refine ⟨t, r, Ev.step (f := fun k => some (t, r)) (fun k => ?_) (Ev.now _), ⟨hp, .inr he⟩, fun _ => rfl, Nat.le_refl _, Nat.le_refl _⟩
      simp only [impl_set_tidy.l1]
      rw [if_pos (by omega), w1, w2, if_pos (by omega), if_pos (by omega), if_pos (by omega), if_pos (by omega), rdOf_nat, rdOf_nat, if_neg (by rw [beq_iff_eq]; exact he)]

theorem tidy_l0 (t r : List Bool) (hr : r ≠ []) (hl : t.length + r.length ≤ 70368744177664) : ∀ (m d : Nat), 0 < d → d ≤ r.length → r.length - d = m → (∀ d', 0 < d' → d' < d → ¬ IsPer r d') →
    ∃ t' r', Ev (fun k => impl_set_tidy.l0 k d t r) (t', r') ∧ Tidy t r t' r' := by
  have hpos := List.length_pos_iff.2 hr
  have hn : IsPer r r.length := ⟨Nat.mod_self _, fun i a b => by omega⟩
  intro m
  induction m with
  | zero =>
    intro d h0 h1 h2 h3
    have e : d = r.length := by omega
    obtain ⟨b, hb, hbi⟩ := turns_f r d h0 h1 (by omega)
    have hbt : b = true := hbi.2 (by rw [e]; exact hn)
    have hp : IsPer r d := hbi.1 hbt
    subst hbt
    have hlt : (r.take d).length = d := by rw [List.length_take]; omega
    obtain ⟨t', r', hev, htd⟩ := tidy_l1 _ t (r.take d) rfl (prim_take h0 h1 hp h3) (by omega)
    rw [hlt] at hev
    refine ⟨t', r', Ev.step (f := fun k => (impl_turns.f k r d).bind fun t161 => (if t161 = true then impl_set_tidy.l1 k d t (r.take d) else (impl_set_tidy.l0 k (wrap64 (d + 1)) t r))) (fun k => ?_) (Ev.bind hb (by simpa using hev)), htd.canon, fun x => by rw [htd.has, take_has hp h0 h1], htd.tl, by have := htd.rl; omega⟩
    simp only [impl_set_tidy.l0]
    congr 1; funext x
    rw [clone_f _ (by omega)]
    simp only [Option.bind_some, Int.toNat_natCast]
    cases x with
    | true => rw [if_pos rfl, if_pos rfl, if_pos (by omega), if_pos (by omega), clone_f _ (by rw [hlt]; omega)]; rfl
    | false => rw [if_neg (by decide), if_neg (by decide)]
  | succ m ih =>
    intro d h0 h1 h2 h3
    obtain ⟨b, hb, hbi⟩ := turns_f r d h0 h1 (by omega)
    have hw : wrap64 ((d : Int) + 1) = ((d + 1 : Nat) : Int) := by rw [w64 (by omega) (by omega)]; omega
    have hlt : (r.take d).length = d := by rw [List.length_take]; omega
    have st : ∀ k, impl_set_tidy.l0 (k + 1) d t r = (impl_turns.f k r d).bind fun t161 => (if t161 = true then impl_set_tidy.l1 k d t (r.take d) else (impl_set_tidy.l0 k ((d + 1 : Nat) : Int) t r)) := fun k => by
      simp only [impl_set_tidy.l0]
      congr 1; funext x
      rw [clone_f _ (by omega)]
      simp only [Option.bind_some, Int.toNat_natCast]
      cases x with
      | true => rw [if_pos rfl, if_pos rfl, if_pos (by omega), if_pos (by omega), clone_f _ (by rw [hlt]; omega)]; rfl
      | false => rw [if_neg (by decide), if_neg (by decide), hw]
    by_cases hp : IsPer r d
    · have hbt := hbi.2 hp
      subst hbt
      obtain ⟨t', r', hev, htd⟩ := tidy_l1 _ t (r.take d) rfl (prim_take h0 h1 hp h3) (by omega)
      rw [hlt] at hev
      exact ⟨t', r', Ev.step st (Ev.bind hb (by simpa using hev)), htd.canon, fun x => by rw [htd.has, take_has hp h0 h1], htd.tl, by have := htd.rl; omega⟩
    · have hbt : b = false := by cases b; rfl; exact absurd (hbi.1 rfl) hp
      subst hbt
      obtain ⟨t', r', hev, htd⟩ := ih (d + 1) (by omega) (by omega) (by omega) (fun d' a b => by
            rcases Nat.lt_or_ge d' d with h | h
            · exact h3 d' a h
            · have : d' = d := by omega
              subst this; exact hp)
      exact ⟨t', r', Ev.step st (Ev.bind hb (by simpa using hev)), htd⟩
theorem tidy_f (t r : List Bool) (hr : r ≠ []) (hl : t.length + r.length ≤ 70368744177664) : ∃ t' r', Ev (fun k => impl_set_tidy.f k t r) (t', r') ∧ Tidy t r t' r' := by
  have hpos := List.length_pos_iff.2 hr
  obtain ⟨t', r', h, htd⟩ := tidy_l0 t r hr hl _ 1 (by omega) (by omega) rfl (fun d a b => by omega)
  exact ⟨t', r', by simpa [impl_set_tidy.f] using h, htd⟩

theorem tidy_cn (t r : List Bool) (hr : r ≠ []) (hl : t.length + r.length ≤ 70368744177664) : Ev (fun k => impl_set_tidy.f k t r) (cn (hasB t r)) := by
  obtain ⟨t', r', h, ht⟩ := tidy_f t r hr hl
  rw [ht.cn]; exact h

end Go.Proofs.Ytnmkinnfbbehnaa.P

-- impl.tidied reads and makes tidy.
namespace Go.Proofs.Ytnmkinnfbbehnaa.P
open Go.RowKit Go.Proofs.YtnmkinnfbbehnaaW.PrintWords Go.Proofs.YtnmkinnfbbehnaaW.PrintLast Go.Proofs.YtnmkinnfbbehnaaW.PrintMore
set_option linter.unusedVariables false
set_option linter.unusedSimpArgs false

/-- What impl.tidied answers. -/
noncomputable def tdd (s : List UInt8) : List Bool × List Bool × Bool := match parse s with | some (a, b) => ((cn (hasB a b)).1, (cn (hasB a b)).2, true) | none => ([], [], false)
theorem tidied_f (s : ByteArray) (hs : s.size ≤ 70368744177664) : Ev (fun k => impl_tidied.f k s) (tdd (chrs s)) := by
  obtain ⟨x, y, h, hp⟩ := setOf_f s hs
  unfold tdd
  cases h0 : parse (chrs s) with
  | none =>
    rw [h0] at h
    refine Ev.congr (f := fun k => (impl_setOf.f k s).bind fun bt186 => (if bt186.2.2 = true then ((impl_set_tidy.f k bt186.1 bt186.2.1).bind fun bt194 => (some (bt194.1, bt194.2, true))) else (some (([] : List Bool), ([] : List Bool), false)))) (fun k => rfl) (Ev.bind h (by simpa using Ev.now _))
  | some ab =>
    obtain ⟨a, b⟩ := ab
    obtain ⟨rfl, rfl⟩ := hp a b h0
    rw [h0] at h
    have hb := parse_some h0
    have ht := tidy_cn x y hb.2.2 (by omega)
    refine Ev.congr (f := fun k => (impl_setOf.f k s).bind fun bt186 => (if bt186.2.2 = true then ((impl_set_tidy.f k bt186.1 bt186.2.1).bind fun bt194 => (some (bt194.1, bt194.2, true))) else (some (([] : List Bool), ([] : List Bool), false)))) (fun k => rfl) (Ev.bind h ?_)
    simp only [Option.isSome_some, if_true]
    exact Ev.bind ht (Ev.now _)

end Go.Proofs.Ytnmkinnfbbehnaa.P

-- impl.small reads a small set, tidily.
namespace Go.Proofs.Ytnmkinnfbbehnaa.P
open Go.RowKit Go.Proofs.YtnmkinnfbbehnaaW.PrintWords Go.Proofs.YtnmkinnfbbehnaaW.PrintLast Go.Proofs.YtnmkinnfbbehnaaW.PrintMore
set_option linter.unusedVariables false
set_option linter.unusedSimpArgs false

theorem small_f (s : ByteArray) (hs : s.size ≤ 70368744177664) : ∃ x y, Ev (fun k => impl_small.f k s) (x, y, smallB (chrs s)) ∧ ((parse (chrs s)).isSome = true → x = (cn (setf (chrs s))).1 ∧ y = (cn (setf (chrs s))).2) := by
  have h := tidied_f s hs
  unfold tdd at h
  unfold smallB
  cases hp : parse (chrs s) with
  | none =>
    rw [hp] at h
    refine ⟨[], [], ?_, fun h => by simp at h⟩
    refine Ev.congr (fun k => rfl) (Ev.bind h ?_)
    simp only [Bool.false_eq_true, if_false, Option.isSome_none, Bool.false_and]
    exact Ev.now _
  | some ab =>
    rw [hp] at h
    have hset := setf_some (a := ab.1) (b := ab.2) hp
    refine ⟨(cn (hasB ab.1 ab.2)).1, (cn (hasB ab.1 ab.2)).2, ?_, fun _ => by rw [hset]; exact ⟨rfl, rfl⟩⟩
    refine Ev.congr (fun k => rfl) (Ev.bind h ?_)
    rw [hset, Option.isSome_some, Bool.true_and]
    simp only [if_true]
    by_cases h1 : (cn (hasB ab.1 ab.2)).1.length ≤ 8
    · by_cases h2 : (cn (hasB ab.1 ab.2)).2.length ≤ 8
      · rw [dec_true (show Small _ from ⟨h1, h2⟩)]
        simp only [if_pos (show ((cn (hasB ab.1 ab.2)).1.length : Int) ≤ 8 by omega), decide_eq_true (show ((cn (hasB ab.1 ab.2)).2.length : Int) ≤ 8 by omega)]
        exact Ev.now _
      · rw [dec_false (fun h : Small _ => h2 h.2)]
        simp only [if_pos (show ((cn (hasB ab.1 ab.2)).1.length : Int) ≤ 8 by omega), decide_eq_false (show ¬ ((cn (hasB ab.1 ab.2)).2.length : Int) ≤ 8 by omega)]
        exact Ev.now _
    · rw [dec_false (fun h : Small _ => h1 h.1)]
      simp only [if_neg (show ¬ ((cn (hasB ab.1 ab.2)).1.length : Int) ≤ 8 by omega)]
      exact Ev.now _
end Go.Proofs.Ytnmkinnfbbehnaa.P

-- impl.StarGap: a range over slices.Backward.
namespace Go.Proofs.Ytnmkinnfbbehnaa.P
open Go.RowKit Go.Shelf Go.Proofs.YtnmkinnfbbehnaaW.PrintWords Go.Proofs.YtnmkinnfbbehnaaW.PrintLast Go.Proofs.YtnmkinnfbbehnaaW.PrintMore
attribute [local go_sem] Oper.semAt_some
set_option linter.unusedVariables false
set_option linter.unusedSimpArgs false

/-- What impl.StarGap answers. -/
noncomputable def impl_StarGap.f (s : ByteArray) : Option (Int × Bool) := if s.size ≤ 70368744177664 then some (gapr (chrs s)) else none
theorem starGap_f (s : ByteArray) (hs : s.size ≤ 70368744177664) : impl_StarGap.f s = some (gapr (chrs s)) := by unfold impl_StarGap.f; rw [if_pos hs]

/-- What a round is handed. -/
abbrev NB := { x : Nat × Bool // x.1 ≤ 100000 }
def dn (q : Nat → Bool) (n : Nat) : NB := ⟨(n % 100001, q n), by have := Nat.mod_lt n (show 0 < 100001 by omega); show n % 100001 ≤ 100000; omega⟩
theorem dn_eq (q : Nat → Bool) {n : Nat} (h : n ≤ 100000) : dn q n = ⟨(n, q n), h⟩ := by unfold dn; congr 2; omega
/-- What has come when k rounds are over: the last k numbers, down. -/
def dnto (q : Nat → Bool) (N : Nat) (k : Nat) : List NB := (List.range k).map fun j => dn q (N - 1 - j)
theorem dnto_succ (q : Nat → Bool) (N k : Nat) : dnto q N (k + 1) = dnto q N k ++ [dn q (N - 1 - k)] := by simp [dnto, List.range_succ]
theorem dnto_length (q : Nat → Bool) (N k : Nat) : (dnto q N k).length = k := by simp [dnto]
theorem dnto_mem (q : Nat → Bool) {N k j : Nat} (hN : N ≤ 100000) (h1 : N ≤ j + k) (h2 : j < N) : ∃ x ∈ dnto q N k, x.1 = (j, q j) := by
  refine ⟨dn q j, List.mem_map.2 ⟨N - 1 - j, List.mem_range.2 (by omega), ?_⟩, ?_⟩
  · rw [show N - 1 - (N - 1 - j) = j by omega]
  · rw [dn_eq q (show j ≤ 100000 by omega)]
theorem topF_of {q : Nat → Bool} {n N : Nat} (h1 : n < N) (h2 : q n = false) (h3 : ∀ j, n < j → j < N → q j = true) : topF q N = some n := by
  cases ht : topF q N with
  | none => have := topF_none ht n h1; rw [h2] at this; cases this
  | some m =>
    obtain ⟨m1, m2, m3⟩ := topF_some ht
    rcases Nat.lt_trichotomy n m with x | x | x
    · rw [h3 m x m1] at m2; cases m2
    · rw [x]
    · rw [m3 n x h1] at h2; cases h2
theorem topF_no {q : Nat → Bool} {N : Nat} (h : ∀ j, j < N → q j = true) : topF q N = none := by
  cases ht : topF q N with
  | none => rfl
  | some m => obtain ⟨m1, m2, m3⟩ := topF_some ht; rw [h m m1] at m2; cases m2

set_option maxRecDepth 100000 in
set_option maxHeartbeats 8000000 in
theorem back1_in (F : Fence) (n : Nat) (hf : F.fn 21) (hro : F.round = none) (hn : 1 ≤ n) (l Bs n₀ N cap : Nat) (A : Option Addr) (q : Nat → Bool) (hN : N ≤ 100000) (J Jx : List NB → World → Prop)
    (hY : ∀ pre x W, J pre W → pre.length < N → YieldAt F (n - 1) Try.prog l #[.int .i64 (x.1.1 : Int), .bool x.1.2] W fun e W' =>
      (e = .returned (.bool true) ∧ J (pre ++ [x]) W' ∧ Below n₀ W W') ∨ (e = .returned (.bool false) ∧ Jx (pre ++ [x]) W'))
    (W : World) (hBn : Bs < n₀) (hBs : W.cell? ⟨Bs, 0, none⟩ = some (.slice A N cap)) (hC : ∀ W', Below n₀ W W' → Kd.C Kd.bool W' A N (mkT q N)) (h0 : J [] W) :
    CallsIn F n Try.prog 21 #[.func (.yield l) #[] #[], .pointer (some ⟨Bs, 0, none⟩)] W fun e W' => (∃ v, e = .returned v) ∧
      ((∃ ys, ys = dnto q N N ∧ J ys W') ∨ (∃ pre, (∃ k, k ≤ N ∧ pre = dnto q N k) ∧ Jx pre W')) := by
  refine callsIn_of_wp Try.func21 rfl hf ?_ hro
  simp only [Try.ntmps21, List.size_toArray, List.length_cons, List.length_nil, Nat.reduceAdd, Nat.reduceSub, Array.replicate_succ, Array.replicate_zero, List.push_toArray, List.append_toArray, List.nil_append, List.cons_append]
  gi_wp2
  gi_loopw [3] (fun i wr => ∃ m : Nat, m ≤ N ∧ i = .int .i64 ((m : Int) - 1) ∧ J (dnto q N (N - m)) wr ∧ Below n₀ W wr) (fun i _ => (intOf i + 1).toNat)
  case atStart => exact ⟨N, Nat.le_refl _, rfl, by rw [Nat.sub_self]; exact h0, Below.refl _ _⟩
  case round =>
    obtain ⟨m, hm, rfl, hJs, hnx⟩ := hrel
    have hbx : wr.cell? ⟨Bs, 0, none⟩ = some (.slice A N cap) := (hnx.cell (p := ⟨Bs, 0, none⟩) hBn).trans hBs
    have hCr := hC wr hnx
    cases m with
    | zero =>
      rw [show ((0 : Nat) : Int) - 1 = -1 from rfl]
      rw [Nat.sub_zero] at hJs
      gi_wp2
      go_end0
      exact ⟨⟨_, rfl⟩, .inl ⟨_, rfl, hJs⟩⟩
    | succ m =>
      rw [show ((m + 1 : Nat) : Int) - 1 = (m : Int) by omega]
      have p1 : (0 : Int) ≤ (m : Int) := by omega
      obtain ⟨ad1, e1, hx1⟩ := Kd.at_bool hCr (m : Int) p1 (by omega)
      rw [Int.toNat_natCast, rdOf_nat, mkT_get q (show m < N by omega)] at hx1
      cases e1
      have hm9 : m ≤ 100000 := by omega
      have hds : dnto q N (N - m) = dnto q N (N - (m + 1)) ++ [⟨(m, q m), hm9⟩] := by
        rw [show N - m = N - (m + 1) + 1 by omega, dnto_succ, show N - 1 - (N - (m + 1)) = m by omega, dn_eq q hm9]
      have q1 : (m : Int) < (N : Int) := by omega
      have q2 : (m : Int) ≤ 100000 := by omega
      obtain ⟨fn, tmps, assign, body, hy, hR⟩ := hY _ ⟨(m, q m), hm9⟩ wr hJs (by rw [dnto_length]; omega)
      dsimp only at hy
      have HD := Aside0.mk hds
      have HC := Aside0.mk hC
      clear hds hC hCr
      gi_wp2
      refine hR.mono ?_
      rintro e W3 (⟨rfl, hJ3, hk3⟩ | ⟨rfl, hJx3⟩)
      · gi_wp2
        go_roundw
        case rel => exact ⟨m, by omega, rfl, by rw [HD.out]; exact hJ3, hnx.trans hk3⟩
        case measure => simp [intOf]
      · gi_wp2
        refine bodyPost_ret (results_none rfl _ _ _) rfl ?_
        exact ⟨⟨_, rfl⟩, .inr ⟨_, ⟨N - m, by omega, HD.out.symm⟩, hJx3⟩⟩

set_option maxHeartbeats 1000000 in
theorem back_in (F : Fence) (n : Nat) (hf : F.fn 12) (hro : F.round = none) (a : Option Addr) (len cap : Nat) (w : World) :
    CallsIn F n Try.prog 12 #[.slice a len cap] w fun e w' => e = .returned (.func (.func 21) #[] #[.pointer (some ⟨w.heap.size, 0, none⟩)]) ∧ w' = w.alloc (.cells #[.slice a len cap] 31) := by
  refine callsIn_of_wp Try.func12 rfl hf ?_ hro
  simp only [Try.ntmps12, List.size_toArray, List.length_cons, List.length_nil, Nat.reduceAdd, Nat.reduceSub, Array.replicate_succ, Array.replicate_zero, List.push_toArray, List.append_toArray, List.nil_append, List.cons_append]
  gi_wp2
  go_ret
  exact ⟨rfl, rfl⟩
theorem back_stops (F : Fence) (n : Nat) (hf : F.fn 21) (hro : F.round = none) (hn : 1 ≤ n) (Bs N cap : Nat) (A : Option Addr) (q : Nat → Bool) (hN : N ≤ 100000) (w : World) (hBs : Bs < w.heap.size)
    (hc : w.cell? ⟨Bs, 0, none⟩ = some (.slice A N cap)) (hC : Kd.C Kd.bool w A N (mkT q N)) :
    SeqStopsK F n Try.prog 21 #[.pointer (some ⟨Bs, 0, none⟩)] (fun x : NB => #[Value.int .i64 (x.1.1 : Int), Value.bool x.1.2]) (Below w.heap.size) (fun ys => ys = dnto q N N)
      (fun pre => ∃ k, k ≤ N ∧ pre = dnto q N k) N w := fun l J Jx W hW _ _ hY h0 =>
  back1_in F n hf hro hn l Bs w.heap.size N cap A q hN J Jx hY W hBs ((hW.cell (p := ⟨Bs, 0, none⟩) hBs).trans hc) (fun W' hW' => Kd.C_below hC (hW.trans hW')) h0

/-- What holds between two rounds, and what behind one that returns. -/
def StarI (w : World) (pre : List NB) (W : World) : Prop := ((∀ p ∈ pre, p.1.2 = true) ∧ Boxed W w.heap.size 3 (.int .i64 0) ∧ Boxed W (w.heap.size + 1) 4 (.bool false)) ∧ Below w.heap.size w W
def StarX (w : World) (c : Go.Code) (pre : List NB) (W : World) : Prop := (c = .ret ∧ ∃ (ini : List NB) (last : NB), pre = ini ++ [last] ∧ (∀ p ∈ ini, p.1.2 = true) ∧ last.1.2 = false ∧ Boxed W w.heap.size 3 (.int .i64 (if 800 ≤ last.1.1 then 0 else (last.1.1 : Int))) ∧ Boxed W (w.heap.size + 1) 4 (.bool (!decide (800 ≤ last.1.1)))) ∧ Below w.heap.size w W
theorem starI_own (w : World) {B : Nat} (hB : w.heap.size ≤ B) : OwnFrom B (StarI w) :=
  OwnFrom.and (Own.from (fun s A B row hs hg hr => ⟨hs.1, boxed_own _ _ (fun _ => _) s A B row hs.2.1 hg hr, boxed_own _ _ (fun _ => _) s A B row hs.2.2 hg hr⟩) _) (ownFrom_below (Nat.le_refl _) hB)
theorem starX_own (w : World) {B : Nat} (hB : w.heap.size ≤ B) (c : Go.Code) : OwnFrom B (StarX w c) :=
  OwnFrom.and (Own.from (fun s A B row hs hg hr => by
    obtain ⟨hc, ini, last, e1, e2, e3, e4, e5⟩ := hs
    exact ⟨hc, ini, last, e1, e2, e3, boxed_own _ _ (fun _ => _) s A B row e4 hg hr, boxed_own _ _ (fun _ => _) s A B row e5 hg hr⟩) _) (ownFrom_below (Nat.le_refl _) hB)

theorem starGap_end (s : ByteArray) (w : World) {D : Nat} {v0 v1 : Value} (V : World) (hD : w.heap.size ≤ D) (hK : V.heap[D]? = some (.deferred (some []))) (b0 : Boxed V w.heap.size 3 v0) (b1 : Boxed V (w.heap.size + 1) 4 v1) (hB : Below w.heap.size w V) {u0 u1 : Value}
    (tm : Array Value) (h0 : v0 = u0) (h1 : v1 = u1) (h2 : tm[2]? = some (.pointer (some ⟨w.heap.size, 0, none⟩)) := by rfl) (h3 : tm[3]? = some (.pointer (some ⟨w.heap.size + 1, 0, none⟩)) := by rfl) :
    bodyPostM Fence.wide 3 Try.prog Try.f5 (fun e w' => e = .returned (.tuple #[u0, u1]) ∧ Below w.heap.size w w') Exit.ret { tmps := tm, defers := [{ target := .collected D, args := #[] }] } V := by
  subst h0 h1
  refine ⟨by simp, .inl ⟨_, _, rfl, run_takeDeferred hK, ?_⟩⟩
  have hc0 := cell_kept b0.cell (grownBy_putObj' _ D (.deferred none)) (fun r e => by cases e; exact ⟨_, hK, rfl⟩)
  have hc1 := cell_kept b1.cell (grownBy_putObj' _ D (.deferred none)) (fun r e => by cases e; exact ⟨_, hK, rfl⟩)
  refine ⟨.tuple #[v0, v1], ?_, rfl, hB.trans (belowK_b (w := w) (Nat.le_refl _) _ D _ _ hD hK rfl rfl)⟩
  simp [results, Try.f5, go_sem, hc0, hc1, h2, h3]

set_option maxRecDepth 100000 in
set_option maxHeartbeats 8000000 in
theorem impl_StarGap_in (s : ByteArray) (hs : s.size ≤ 70368744177664) (w : World) :
    CallsIn Fence.wide 3 Try.prog 5 #[.string s] w fun e w' => e = .returned (.tuple #[.int .i64 (gapr (chrs s)).1, .bool (gapr (chrs s)).2]) ∧ Below w.heap.size w w' := by
  have hro : Fence.wide.round = none := rfl
  obtain ⟨x, y, hev, hxy⟩ := small_f s hs
  obtain ⟨k, hk⟩ := hev.rounds
  have hu := Try.underlying33
  clear hev
  cases hb : smallB (chrs s) with
  | false =>
    rw [hb] at hk
    have HK := fun w => Aside0.mk (impl_small.calls k s x y false w hk)
    have hge : gapr (chrs s) = (0, false) := by unfold gapr; rw [hb]; rfl
    rw [hge]
    clear hb hk hxy hge
    refine callsIn_of_wp_marks Try.func5 rfl trivial ?_ hro
    simp only [Try.ntmps5, List.size_toArray, List.length_cons, List.length_nil, Nat.reduceAdd, Nat.reduceSub, Array.replicate_succ, Array.replicate_zero, List.push_toArray, List.append_toArray, List.nil_append, List.cons_append]
    gi_wp2_with (refine ⟨trivial, ?_⟩; gi_at_call 10; refine (callsIn_wide.2 (HK _).out).mono ?_; rintro e w1 ⟨v0_, v1_, rfl, hR0, hR1, hb1⟩; obtain ⟨A0, n0, rfl, hn0, hC0⟩ := Kd.R_reads hR0; obtain ⟨A1, n1, rfl, hn1, hC1⟩ := Kd.R_reads hR1; have R0 := Aside0.mk (show Boxed w1 w.heap.size 3 (.int .i64 0) from blk_below (blk_alloc (blk_new w _) _) hb1); have R1 := Aside0.mk (show Boxed w1 (w.heap.size + 1) 4 (.bool false) from blk_below (by have h9 := blk_new (w.alloc (.cells #[.int .i64 0] 3)) (.cells #[.bool false] 4); rwa [World.size_alloc] at h9) hb1); have HB01 := Aside0.mk (below_step (below_alloc (below_alloc (Below.refl w.heap.size w) _) _) hb1); have hc0 := R0.out.cell; have hc1 := R1.out.cell; have hf0 := R0.out.frozen; have hf1 := R1.out.frozen; have hlt0 := R0.out.lt; have hlt1 := R1.out.lt; clear hR0 hR1 hC0 hC1 hn0 hn1 hb1)
    have P0 : Boxed (w1.setCell ⟨w.heap.size, 0, none⟩ (.int .i64 0)) w.heap.size 3 (.int .i64 0) := R0.out.set _
    have P1 : Boxed (w1.setCell ⟨w.heap.size, 0, none⟩ (.int .i64 0)) (w.heap.size + 1) 4 (.bool false) := blk_far R1.out (by show w.heap.size + 1 ≠ w.heap.size; omega) _
    have Q0 : Boxed ((w1.setCell ⟨w.heap.size, 0, none⟩ (.int .i64 0)).setCell ⟨w.heap.size + 1, 0, none⟩ (.bool false)) w.heap.size 3 (.int .i64 0) := blk_far P0 (by show w.heap.size ≠ w.heap.size + 1; omega) _
    have Q1 : Boxed ((w1.setCell ⟨w.heap.size, 0, none⟩ (.int .i64 0)).setCell ⟨w.heap.size + 1, 0, none⟩ (.bool false)) (w.heap.size + 1) 4 (.bool false) := P1.set _
    have d0 := (Q0.alloc (.cells #[.slice A0 x.length n0, .slice A1 y.length n1] 33)).cell
    have d1 := (Q1.alloc (.cells #[.slice A0 x.length n0, .slice A1 y.length n1] 33)).cell
    refine ⟨.tuple #[.int .i64 0, .bool false], ?_, rfl, below_alloc (below_set (below_set HB01.out (Nat.le_refl _)) (Nat.le_succ _)) _⟩
    simp [results, Try.f5, go_sem, d0, d1]
  | true =>
    rw [hb] at hk
    have HK := fun w => Aside0.mk (impl_small.calls k s x y true w hk)
    obtain ⟨a, c, hp, hset, hm1, hm2, hpos, hper⟩ := smallB_ok hb
    obtain ⟨rfl, rfl⟩ := hxy (by rw [hp]; rfl)
    have hh1 : hasB (cn (setf (chrs s))).1 (cn (setf (chrs s))).2 = setf (chrs s) := by rw [hset]; exact cn_has (parse_per hp).1 (parse_per hp).2
    have hge : gapr (chrs s) = gap (stq (setf (chrs s))) := by unfold gapr; rw [if_pos hb]
    rw [hge, ← hh1]
    generalize (cn (setf (chrs s))).1 = x at *
    generalize (cn (setf (chrs s))).2 = y at *
    obtain ⟨k4, hk4⟩ := (star_f x y (List.length_pos_iff.1 hpos) (by omega) (by omega) 1000 (by omega) (by omega)).rounds
    have hml : (mkT (stq (hasB x y)) 1000).length = 1000 := mkT_length _ _
    have HML := Aside0.mk hml
    have HK4 := Aside0.mk hk4
    clear hb hp hxy hk hper hge hh1 hset hm1 hm2 hpos hml hk4
    generalize stq (hasB x y) = q at *
    obtain ⟨G, hG⟩ : ∃ G, gap q = G := ⟨_, rfl⟩
    rw [hG]
    have HG := Aside0.mk hG
    clear hG
    refine callsIn_of_wp_marks Try.func5 rfl trivial ?_ hro
    simp only [Try.ntmps5, List.size_toArray, List.length_cons, List.length_nil, Nat.reduceAdd, Nat.reduceSub, Array.replicate_succ, Array.replicate_zero, List.push_toArray, List.append_toArray, List.nil_append, List.cons_append]
    gi_wp2_with (first
      | (refine ⟨trivial, ?_⟩; gi_at_call 10; refine (callsIn_wide.2 (HK _).out).mono ?_; rintro e w1 ⟨v0_, v1_, rfl, hR0, hR1, hb1⟩; obtain ⟨A0, n0, rfl, hn0, hC0⟩ := Kd.R_reads hR0; obtain ⟨A1, n1, rfl, hn1, hC1⟩ := Kd.R_reads hR1; have C0 := Aside0.mk hC0; have C1 := Aside0.mk hC1; have N0 := Aside0.mk hn0; have N1 := Aside0.mk hn1; have R0 := Aside0.mk (show Boxed w1 w.heap.size 3 (.int .i64 0) from blk_below (blk_alloc (blk_new w _) _) hb1); have R1 := Aside0.mk (show Boxed w1 (w.heap.size + 1) 4 (.bool false) from blk_below (by have h9 := blk_new (w.alloc (.cells #[.int .i64 0] 3)) (.cells #[.bool false] 4); rwa [World.size_alloc] at h9) hb1); have HB01 := Aside0.mk (below_step (below_alloc (below_alloc (Below.refl w.heap.size w) _) _) hb1); clear hR0 hR1 hC0 hC1 hn0 hn1 hb1)
      | (refine ⟨trivial, ?_⟩; gi_at_call 11; refine (callsIn_wide.2 (impl_star.calls k4 A0 n0 x A1 n1 y _ _ _ (Kd.C_alloc C0.out _) N0.out (Kd.C_alloc C1.out _) N1.out HK4.out)).mono ?_; rintro e w3 ⟨v2_, rfl, hR2, hb3⟩; obtain ⟨A2, n2, rfl, hn2, hC2⟩ := Kd.R_reads hR2; rw [HML.out] at hn2 hC2; have C2 := Aside0.mk hC2; have R03 := Aside0.mk (show Boxed w3 w.heap.size 3 (.int .i64 0) from blk_below (blk_alloc R0.out _) hb3); have R13 := Aside0.mk (show Boxed w3 (w.heap.size + 1) 4 (.bool false) from blk_below (blk_alloc R1.out _) hb3); have HB03 := Aside0.mk (below_step (below_alloc HB01.out _) hb3); clear hR2 hC2 hn2 hb3; rw [HML.out])
      | (refine ⟨trivial, ?_⟩; gi_at_call 12; refine (back_in Fence.wide (3 - 1) trivial hro _ _ _ _).mono ?_; rintro e w' ⟨rfl, rfl⟩))
    have HC3 := Aside0.mk (Kd.C_alloc C2.out (.cells #[.slice A2 1000 n2] 31))
    have hl3 := R13.out.lt
    have B0 := Aside0.mk (R03.out.alloc (.cells #[.slice A2 1000 n2] 31))
    have B1 := Aside0.mk (R13.out.alloc (.cells #[.slice A2 1000 n2] 31))
    have BN := Aside0.mk (Boxed.new w3 31 (.slice A2 1000 n2))
    have HB4 := Aside0.mk (below_alloc HB03.out (.cells #[.slice A2 1000 n2] 31))
    have hsz4 : (w3.alloc (.cells #[.slice A2 1000 n2] 31)).heap.size = w3.heap.size + 1 := World.size_alloc _ _
    clear HK HML HK4 hu C0 C1 N0 N1 R0 R1 HB01
    refine wpIn_rangeFunc_ownG hro (by omega) (gf := 21) (lb := #[.pointer (some ⟨w3.heap.size, 0, none⟩)]) rfl trivial (enters_of Try.func21 (by kernel_rfl) rfl)
      (back_stops Fence.wide (3 - 1) trivial hro (by omega) w3.heap.size 1000 n2 A2 q (by omega) (w3.alloc (.cells #[.slice A2 1000 n2] 31)) (by omega) BN.out.cell HC3.out) belowK_t (belowK_b (Nat.le_refl _)) (Below.refl _ _) (fun _ => rfl)
      (StarI w) (StarX w) (starI_own w (by omega)) (starX_own w (by omega))
      ⟨⟨by simp, B0.out, B1.out⟩, HB4.out⟩
      (fun z => { tmps := #[.string s, undef, .pointer (some ⟨w.heap.size, 0, none⟩), .pointer (some ⟨w.heap.size + 1, 0, none⟩), .pointer (some ⟨w1.heap.size, 0, none⟩), .bool true, .slice A2 1000 n2, .int .i64 (z.1.1 : Int), .bool z.1.2, .tuple #[.agg #[.slice A0 x.length n0, .slice A1 y.length n1], .bool true], .string s, .tuple #[.agg #[.slice A0 x.length n0, .slice A1 y.length n1], .bool true], .agg #[.slice A0 x.length n0, .slice A1 y.length n1], .bool true, .bool true, .bool false, .agg #[.slice A0 x.length n0, .slice A1 y.length n1], .slice A2 1000 n2, .slice A2 1000 n2, .func (.func 21) #[] #[.pointer (some ⟨w3.heap.size, 0, none⟩)], .int .i64 (z.1.1 : Int), .bool z.1.2, undef, undef, undef, undef, undef, undef, undef, undef, undef, undef], defers := [] }) ?assign ?body ?done ?stop
    case assign =>
      intro l x W K hK
      gi_wp2
      exact hK
    case body =>
      rintro l pre ⟨⟨m, v⟩, hm⟩ W ⟨⟨hp, b0, b1⟩, hB⟩ _
      dsimp only at hm
      have hc0 := b0.cell
      have hc1 := b1.cell
      have hf0 := b0.frozen
      have hf1 := b1.frozen
      have hlt0 := b0.lt
      have hlt1 := b1.lt
      have P0 := Aside0.mk b0
      have P1 := Aside0.mk b1
      have PB := Aside0.mk hB
      have PP := Aside0.mk hp
      have PM := Aside0.mk hm
      clear b0 b1 hB hp
      cases v with
      | true =>
        gi_wp2
        refine ⟨KeepsFrom.refl _ _, Below.refl _ _, ?_⟩
        refine ⟨⟨fun p hp' => ?_, P0.out, P1.out⟩, PB.out⟩
        rcases List.mem_append.1 hp' with h | h
        · exact PP.out p h
        · rw [List.mem_singleton.1 h]
      | false =>
        by_cases h8 : 800 ≤ m
        · gi_wp2
          refine ⟨((KeepsOthers.setCell _ _ _).trans (KeepsOthers.setCell _ _ _)).from _, ?_⟩
          refine ⟨⟨rfl, pre, ⟨(m, false), PM.out⟩, rfl, PP.out, rfl, ?_, ?_⟩, below_set (below_set PB.out (Nat.le_refl _)) (Nat.le_succ _)⟩
          · rw [if_pos h8]; exact blk_far (P0.out.set _) (by show w.heap.size ≠ w.heap.size + 1; omega) _
          · rw [decide_eq_true h8]; exact Boxed.set _ (blk_far P1.out (by show w.heap.size + 1 ≠ w.heap.size; omega) _)
        · gi_wp2
          refine ⟨((KeepsOthers.setCell _ _ _).trans (KeepsOthers.setCell _ _ _)).from _, ?_⟩
          refine ⟨⟨rfl, pre, ⟨(m, false), PM.out⟩, rfl, PP.out, rfl, ?_, ?_⟩, below_set (below_set PB.out (Nat.le_refl _)) (Nat.le_succ _)⟩
          · rw [if_neg h8]; exact blk_far (P0.out.set _) (by show w.heap.size ≠ w.heap.size + 1; omega) _
          · rw [decide_eq_false h8]; exact Boxed.set _ (blk_far P1.out (by show w.heap.size + 1 ≠ w.heap.size; omega) _)
    case done =>
      rintro D ys W hD rfl ⟨⟨hne, b0, b1⟩, hB⟩ hK
      have hgap : gap q = (0, false) := by
        unfold gap
        rw [topF_no fun j hj => ?_]
        obtain ⟨x9, hx9, e9⟩ := dnto_mem q (N := 1000) (k := 1000) (j := j) (by omega) (by omega) hj
        have := hne x9 hx9
        rw [e9] at this; exact this
      obtain rfl : G = (0, false) := by rw [← HG.out]; exact hgap
      have hc0 := b0.cell
      have hc1 := b1.cell
      have hf0 := b0.frozen
      have hf1 := b1.frozen
      have hlt0 := b0.lt
      have hlt1 := b1.lt
      have P0 := Aside0.mk b0
      have P1 := Aside0.mk b1
      have PB := Aside0.mk hB
      have PD := Aside0.mk hD
      have PK := Aside0.mk hK
      clear b0 b1 hB hne hgap
      gi_wp2
      have k1 := (KeepsOthers.setCell W ⟨w.heap.size, 0, none⟩ (.int .i64 0)).same D _ PK.out rfl
      have k2 := (KeepsOthers.setCell (W.setCell ⟨w.heap.size, 0, none⟩ (.int .i64 0)) ⟨w.heap.size + 1, 0, none⟩ (.bool false)).same D _ k1 rfl
      exact starGap_end s w _ (Nat.le_trans (by omega) PD.out) k2 (blk_far (P0.out.set _) (by show w.heap.size ≠ w.heap.size + 1; omega) _) (Boxed.set _ (blk_far P1.out (by show w.heap.size + 1 ≠ w.heap.size; omega) _)) (below_set (below_set PB.out (Nat.le_refl _)) (Nat.le_succ _)) _ rfl rfl
    case stop =>
      rintro D c pre W hD ⟨k, hk, rfl⟩ ⟨⟨rfl, ini, last, e1, e2, e3, b0, b1⟩, hB⟩ hK
      have hG : gap q = if 800 ≤ last.1.1 then (0, false) else ((last.1.1 : Int), true) := by
        obtain ⟨k', rfl⟩ : ∃ k', k = k' + 1 := by
          cases k with
          | zero => simp [dnto] at e1
          | succ k' => exact ⟨k', rfl⟩
        rw [dnto_succ] at e1
        obtain ⟨rfl, e5⟩ := List.append_inj' e1 rfl
        obtain rfl : dn q (1000 - 1 - k') = last := by simpa using e5
        rw [dn_eq q (show 1000 - 1 - k' ≤ 100000 by omega)] at e3 ⊢
        have ht : topF q 1000 = some (1000 - 1 - k') := topF_of (by omega) e3 fun j h1 h2 => by
          obtain ⟨x9, hx9, e9⟩ := dnto_mem q (N := 1000) (k := k') (j := j) (by omega) (by omega) h2
          have := e2 x9 hx9
          rw [e9] at this; exact this
        unfold gap
        rw [ht]
      have P0 := Aside0.mk b0
      have P1 := Aside0.mk b1
      have PB := Aside0.mk hB
      have PD := Aside0.mk hD
      have PK := Aside0.mk hK
      have HX := Aside0.mk (show G.1 = (if 800 ≤ last.1.1 then 0 else (last.1.1 : Int)) ∧ G.2 = (!decide (800 ≤ last.1.1)) by
        rw [← HG.out, hG]
        by_cases h8 : 800 ≤ last.1.1
        · rw [if_pos h8, if_pos h8, decide_eq_true h8]; exact ⟨rfl, rfl⟩
        · rw [if_neg h8, if_neg h8, decide_eq_false h8]; exact ⟨rfl, rfl⟩)
      clear hG e1 e2 e3 hk HG hB hK b0 b1
      gi_wp2
      refine starGap_end s w _ (Nat.le_trans (by omega) PD.out) PK.out P0.out P1.out PB.out _ ?_ ?_
      · exact congrArg (Value.int .i64) HX.out.1.symm
      · exact congrArg Value.bool HX.out.2.symm

theorem impl_StarGap.calls (s : ByteArray) (r1 : Int) (r2 : Bool) (w : World) (h : impl_StarGap.f s = some (r1, r2)) :
    Calls Try.prog 5 #[.string s] w fun e w' => e = .returned (.tuple #[.int .i64 r1, .bool r2]) ∧ Below w.heap.size w w' := by
  unfold impl_StarGap.f at h
  split at h
  rotate_left
  · cases h
  rename_i hs
  simp only [Option.some.injEq] at h
  have hR : r1 = (gapr (chrs s)).1 ∧ r2 = (gapr (chrs s)).2 := by rw [h]; exact ⟨rfl, rfl⟩
  obtain ⟨rfl, rfl⟩ := hR
  exact callsIn_wide.1 (impl_StarGap_in s hs w)
end Go.Proofs.Ytnmkinnfbbehnaa.P

namespace Go.Proofs.Ytnmkinnfbbehnaa.P
open Go.RowKit Go.Proofs.YtnmkinnfbbehnaaW.PrintWords Go.Proofs.YtnmkinnfbbehnaaW.PrintLast Go.Proofs.YtnmkinnfbbehnaaW.PrintMore
attribute [local go_sem] max2_int min2_int max_two min_two max_three min_three max_four min_four   -- for this text's walks alone
set_option linter.unusedVariables false
set_option linter.unusedSimpArgs false

/-! ### laws_FnStarGap: function 3 -/
mutual
noncomputable def laws_FnStarGap.j0:Nat→ByteArray→Int→Bool→Bool→Option (Bool)
 | 0,_,_,_,_=>none
 | k+1,x3,x4,x5,x8=>if x8=true then (laws_FnStarGap.j1 k x3 x4 x8 (!x5)) else (laws_FnStarGap.j1 k x3 x4 x8 true)
noncomputable def laws_FnStarGap.j1:Nat→ByteArray→Int→Bool→Bool→Option (Bool)
 | 0,_,_,_,_=>none
 | k+1,x3,x4,x8,x38=>if x38=true then (some x8) else (laws_FnStarGap.l0 k x3 x4 (wrap64 (x4+1)))
noncomputable def laws_FnStarGap.l0:Nat→ByteArray→Int→Int→Option (Bool)
 | 0,_,_,_=>none
 | k+1,x3,x4,x9=>if x9≤(wrap64 (x4+40)) then ((impl_StarHas.f k x3 x9).bind fun t371=>(if t371=true then (laws_FnStarGap.l0 k x3 x4 (wrap64 (x9+1))) else (some false))) else ((impl_StarHas.f k x3 x4).bind fun t372=>(if t372=true then (some false) else (some (decide (x4 ≥ 1)))))
end
noncomputable def laws_FnStarGap.f (k:Nat) (l0:List Int):Option (Bool):=if (l0.length:Int) > 1048576 then (some true) else ((spec_DrawStarGap.f k l0).bind fun t366=>((impl_StarGap.f t366).bind fun bt367=>((spec_StarGap.f k t366).bind fun bt369=>(if bt367.1=bt369.1 then (laws_FnStarGap.j0 k t366 bt367.1 bt367.2 (bt367.2 == bt369.2)) else (laws_FnStarGap.j0 k t366 bt367.1 bt367.2 false)))))
theorem laws_FnStarGap.mono_l:∀ k,(∀ y0 y1 y2 y3,LeO (laws_FnStarGap.j0 k y0 y1 y2 y3) (laws_FnStarGap.j0 (k+1) y0 y1 y2 y3))∧(∀ y0 y1 y2 y3,LeO (laws_FnStarGap.j1 k y0 y1 y2 y3) (laws_FnStarGap.j1 (k+1) y0 y1 y2 y3))∧(∀ y0 y1 y2,LeO (laws_FnStarGap.l0 k y0 y1 y2) (laws_FnStarGap.l0 (k+1) y0 y1 y2))
 | 0=>⟨fun _ _ _ _ r h=>by simp [laws_FnStarGap.j0] at h,fun _ _ _ _ r h=>by simp [laws_FnStarGap.j1] at h,fun _ _ _ r h=>by simp [laws_FnStarGap.l0] at h⟩
 | k+1=>by
  obtain ⟨ih0,ih1,ih2⟩:=laws_FnStarGap.mono_l k
  refine ⟨?_,?_,?_⟩
  ·intro y0 y1 y2 y3
   unfold laws_FnStarGap.j0
   repeat' first
   | (with_reducible exact ih0 _ _ _ _)
   | (with_reducible exact ih1 _ _ _ _)
   | (with_reducible exact ih2 _ _ _)
   | (with_reducible exact impl_StarHas.mono _ _ _)
   | (with_reducible exact spec_DrawStarGap.mono _ _)
   | (with_reducible exact spec_StarGap.mono _ _)
   | (with_reducible exact LeO.refl _)
   | (with_reducible exact LeO.none _)
   | (with_reducible refine LeO.ite ?_ ?_)
   | (with_reducible refine LeO.bind ?_ (fun _=>?_))
   | exact ih0 _ _ _ _
   | exact ih1 _ _ _ _
   | exact ih2 _ _ _
   | exact impl_StarHas.mono _ _ _
   | exact spec_DrawStarGap.mono _ _
   | exact spec_StarGap.mono _ _
   | exact LeO.none _
   | refine LeO.ite ?_ ?_
   | refine LeO.bind ?_ (fun _=>?_)
  ·intro y0 y1 y2 y3
   unfold laws_FnStarGap.j1
   repeat' first
   | (with_reducible exact ih0 _ _ _ _)
   | (with_reducible exact ih1 _ _ _ _)
   | (with_reducible exact ih2 _ _ _)
   | (with_reducible exact impl_StarHas.mono _ _ _)
   | (with_reducible exact spec_DrawStarGap.mono _ _)
   | (with_reducible exact spec_StarGap.mono _ _)
   | (with_reducible exact LeO.refl _)
   | (with_reducible exact LeO.none _)
   | (with_reducible refine LeO.ite ?_ ?_)
   | (with_reducible refine LeO.bind ?_ (fun _=>?_))
   | exact ih0 _ _ _ _
   | exact ih1 _ _ _ _
   | exact ih2 _ _ _
   | exact impl_StarHas.mono _ _ _
   | exact spec_DrawStarGap.mono _ _
   | exact spec_StarGap.mono _ _
   | exact LeO.none _
   | refine LeO.ite ?_ ?_
   | refine LeO.bind ?_ (fun _=>?_)
  ·intro y0 y1 y2
   unfold laws_FnStarGap.l0
   repeat' first
   | (with_reducible exact ih0 _ _ _ _)
   | (with_reducible exact ih1 _ _ _ _)
   | (with_reducible exact ih2 _ _ _)
   | (with_reducible exact impl_StarHas.mono _ _ _)
   | (with_reducible exact spec_DrawStarGap.mono _ _)
   | (with_reducible exact spec_StarGap.mono _ _)
   | (with_reducible exact LeO.refl _)
   | (with_reducible exact LeO.none _)
   | (with_reducible refine LeO.ite ?_ ?_)
   | (with_reducible refine LeO.bind ?_ (fun _=>?_))
   | exact ih0 _ _ _ _
   | exact ih1 _ _ _ _
   | exact ih2 _ _ _
   | exact impl_StarHas.mono _ _ _
   | exact spec_DrawStarGap.mono _ _
   | exact spec_StarGap.mono _ _
   | exact LeO.none _
   | refine LeO.ite ?_ ?_
   | refine LeO.bind ?_ (fun _=>?_)
theorem laws_FnStarGap.mono:∀ a0 k,LeO (laws_FnStarGap.f k a0) (laws_FnStarGap.f (k+1) a0):=by
 intro a0 k
 obtain ⟨ih0,ih1,ih2⟩:=laws_FnStarGap.mono_l k
 unfold laws_FnStarGap.f
 repeat' first
   | (with_reducible exact ih0 _ _ _ _)
   | (with_reducible exact ih1 _ _ _ _)
   | (with_reducible exact ih2 _ _ _)
   | (with_reducible exact impl_StarHas.mono _ _ _)
   | (with_reducible exact spec_DrawStarGap.mono _ _)
   | (with_reducible exact spec_StarGap.mono _ _)
   | (with_reducible exact LeO.refl _)
   | (with_reducible exact LeO.none _)
   | (with_reducible refine LeO.ite ?_ ?_)
   | (with_reducible refine LeO.bind ?_ (fun _=>?_))
   | exact ih0 _ _ _ _
   | exact ih1 _ _ _ _
   | exact ih2 _ _ _
   | exact impl_StarHas.mono _ _ _
   | exact spec_DrawStarGap.mono _ _
   | exact spec_StarGap.mono _ _
   | exact LeO.none _
   | refine LeO.ite ?_ ?_
   | refine LeO.bind ?_ (fun _=>?_)
set_option maxHeartbeats 8000000 in
set_option maxRecDepth 100000 in
theorem laws_FnStarGap.calls (k:Nat) (A0:Option Addr) (c0:Nat) (l0:List Int) (r:Bool) (w:World) (hr0:Kd.C (Kd.int .u8) w A0 l0.length l0) (hc0:l0.length≤c0) (h:laws_FnStarGap.f k l0=some r) :
  Calls Try.prog 3 #[.slice A0 l0.length c0] w fun e w'=>e=.returned (.bool r)∧Below w.heap.size w w':=by
 have HR0:=Aside0.mk hr0
 have HC0:=Aside0.mk hc0
 clear hr0 hc0
 have HB:=Aside0.mk (Below.refl w.heap.size w)
 have H:(if (l0.length:Int) > 1048576 then (some true) else ((spec_DrawStarGap.f k l0).bind fun t366=>((impl_StarGap.f t366).bind fun bt367=>((spec_StarGap.f k t366).bind fun bt369=>(if bt367.1=bt369.1 then (laws_FnStarGap.j0 k t366 bt367.1 bt367.2 (bt367.2 == bt369.2)) else (laws_FnStarGap.j0 k t366 bt367.1 bt367.2 false))))))=some r:=h
 clear h
 by_cases c2:(l0.length:Int) > 1048576
 ·rw [if_pos c2] at H
  have c2b0:decide (1048576<(l0.length:Int))=true:=decide_eq_true c2
  have c2b1:decide (1048576<l0.length)=true:=decide_eq_true (by omega)
  clear c2
  obtain rfl:=Option.some.inj H
  go_enter Try.func3,Try.ntmps3
  go_wp2
  go_ret
  exact ⟨by first|rfl|(simp [errW_none,errW_some]<;>rfl)|(simp [*,errW_none,errW_some]<;>rfl)|(simp [errW_none,errW_some];exact ⟨rfl,rfl⟩),by repeat (first|(with_reducible first|exact HB.out|apply yA|apply yB|apply yC)|exact HB.out)⟩
 ·rw [if_neg c2] at H
  have c2b0:decide (1048576<(l0.length:Int))=false:=decide_eq_false c2
  have c2b1:decide (1048576<l0.length)=false:=decide_eq_false (by omega)
  clear c2
  replace H:=Option.bind_eq_some_iff.mp H
  obtain ⟨t366,A30,H⟩:=H
  replace H:((impl_StarGap.f t366).bind fun bt367=>((spec_StarGap.f k t366).bind fun bt369=>(if bt367.1=bt369.1 then (laws_FnStarGap.j0 k t366 bt367.1 bt367.2 (bt367.2 == bt369.2)) else (laws_FnStarGap.j0 k t366 bt367.1 bt367.2 false))))=some r:=H
  have A3:=Aside0.mk A30
  clear A30
  replace H:=Option.bind_eq_some_iff.mp H
  obtain ⟨⟨t367,t368⟩,A40,H⟩:=H
  replace H:((spec_StarGap.f k t366).bind fun bt369=>(if t367=bt369.1 then (laws_FnStarGap.j0 k t366 t367 t368 (t368 == bt369.2)) else (laws_FnStarGap.j0 k t366 t367 t368 false)))=some r:=H
  have A4:=Aside0.mk A40
  clear A40
  replace H:=Option.bind_eq_some_iff.mp H
  obtain ⟨⟨t369,t370⟩,A50,H⟩:=H
  replace H:(if t367=t369 then (laws_FnStarGap.j0 k t366 t367 t368 (t368 == t370)) else (laws_FnStarGap.j0 k t366 t367 t368 false))=some r:=H
  have A5:=Aside0.mk A50
  clear A50
  have HC6:=Aside0.mk H
  clear H
  go_enter Try.func3,Try.ntmps3
  go_upto_region 6 with (first|((with_reducible refine gate_callee (f:=4) rfl ?_);refine goesL_ (some 14) rfl rfl Try.func4 (by kernel_rfl) rfl #[.slice A0 l0.length c0] rfl (by (try simp only [List.map_toArray,List.map_cons,List.map_nil]);first|done|rfl|(simp only [List.length_drop,List.length_take];rfl)) ?_;(with_reducible refine (spec_DrawStarGap.calls k _ _ l0 t366 _ ?side1 ?side2 A3.out).mono ?_);(case side1=>repeat (first|exact HR0.out|(with_reducible refine Kd.C_alloc ?_ _)|(with_reducible refine Kd.C_drewN ?_ _)|(with_reducible refine Kd.C_drew ?_)));(case side2=>exact HC0.out);rintro e w7 ⟨rfl,hb⟩;refine ⟨_,rfl,?_⟩;have n0_:=Aside0.mk (yP (by repeat (first|(with_reducible first|exact HB.out|apply yA|apply yB|apply yC)|exact HB.out)) hb);clear HB;have HB:=n0_;clear n0_;(try clear hb);(try clear hb2);(try clear hk);(try clear hi))|((with_reducible refine gate_callee (f:=5) rfl ?_);refine goesL_ (some 17) rfl rfl Try.func5 (by kernel_rfl) rfl #[.string t366] rfl (by (try simp only [List.map_toArray,List.map_cons,List.map_nil]);first|done|rfl|(simp only [List.length_drop,List.length_take];rfl)) ?_;(with_reducible refine (impl_StarGap.calls t366 t367 t368 _ A4.out).mono ?_);rintro e w8 ⟨rfl,hb⟩;refine ⟨_,rfl,?_⟩;have n0_:=Aside0.mk (yP (by repeat (first|(with_reducible first|exact HB.out|apply yA|apply yB|apply yC)|exact HB.out)) hb);clear HB;have HB:=n0_;clear n0_;(try clear hb);(try clear hb2);(try clear hk);(try clear hi))|((with_reducible refine gate_callee (f:=6) rfl ?_);refine goesL_ (some 22) rfl rfl Try.func6 (by kernel_rfl) rfl #[.string t366] rfl (by (try simp only [List.map_toArray,List.map_cons,List.map_nil]);first|done|rfl|(simp only [List.length_drop,List.length_take];rfl)) ?_;(with_reducible refine (spec_StarGap.calls k t366 t369 t370 _ A5.out).mono ?_);rintro e w9 ⟨rfl,hb⟩;refine ⟨_,rfl,?_⟩;have n0_:=Aside0.mk (yP (by repeat (first|(with_reducible first|exact HB.out|apply yA|apply yB|apply yC)|exact HB.out)) hb);clear HB;have HB:=n0_;clear n0_;(try clear hb);(try clear hb2);(try clear hk);(try clear hi)))
  (try simp only [Act.put,yK,yL,yM])
  go_cut [8] (fun v8 wc=>∃ (kq:Nat) (x8_5:Bool),v8=.bool x8_5∧Aside0 (laws_FnStarGap.j0 kq t366 t367 t368 x8_5=some r)∧Aside0 (kq≤k)∧Aside0 (Below w.heap.size w wc))
  case first =>
   have H:=HC6.out
   clear HC6
   by_cases c10:t367=t369
   ·rw [if_pos c10] at H
    have c10b0:(t367 == t369)=true:=beq_iff_eq.mpr c10
    have c10b1:(t367 != t369)=false:=bne_eq_false_iff_eq.mpr c10
    clear c10
    (first|rw [c10b0]|(simp only [i64_w,i32_w];rw [c10b0])|skip)
    have H':=Aside0.mk H
    clear H
    go_wp2
    go_meet
    case rel=>exact ⟨_,((t368 == t370)),(by first|rfl|(simp;done)|(simp [*];done)|(simp [Int.tmod_eq_emod_of_nonneg];done)),H',⟨by first|omega|exact Nat.le_refl _⟩,⟨by repeat (first|(with_reducible first|exact HB.out|apply yA|apply yB|apply yC)|exact HB.out)⟩⟩
   ·rw [if_neg c10] at H
    have c10b0:(t367 == t369)=false:=beq_eq_false_iff_ne.mpr c10
    have c10b1:(t367 != t369)=true:=bne_iff_ne.mpr c10
    (first|rw [c10b0]|(simp only [i64_w,i32_w];rw [c10b0])|skip)
    have H':=Aside0.mk H
    clear H
    go_wp2
    go_meet
    case rel=>exact ⟨_,(false),(by first|rfl|(simp;done)|(simp [*];done)|(simp [Int.tmod_eq_emod_of_nonneg];done)),H',⟨by first|omega|exact Nat.le_refl _⟩,⟨by repeat (first|(with_reducible first|exact HB.out|apply yA|apply yB|apply yC)|exact HB.out)⟩⟩
  case rest =>
   clear HC6
   try clear c1
   try clear c2
   try clear c2b0
   try clear c2b1
   try clear p2
   try clear c3
   try clear c4
   try clear c5
   try clear c6
   try clear c10
   try clear c10b0
   try clear c10b1
   obtain ⟨kq,x8_5,rfl,HA,HJ5,HB⟩:=hcut
   cases kq with
   | zero=>exact absurd HA.out (by simp [laws_FnStarGap.j0])
   | succ kj5 =>
    have H:=HA.out
    clear HA
    simp only [laws_FnStarGap.j0] at H
    have HC11:=Aside0.mk H
    clear H
    go_upto_region 7 with (fail)
    go_cut [38] (fun v38 wc=>∃ (kq:Nat) (x38_10:Bool),v38=.bool x38_10∧Aside0 (laws_FnStarGap.j1 kq t366 t367 x8_5 x38_10=some r)∧Aside0 (kq≤kj5)∧Aside0 (Below w.heap.size w wc))
    case first =>
     have H:=HC11.out
     clear HC11
     by_cases c12:x8_5=true
     ·subst c12
      have H1:(laws_FnStarGap.j1 kj5 t366 t367 true (!t368))=some r:=by rw [if_pos rfl] at H;exact H
      clear H
      have H:=H1
      clear H1
      have H':=Aside0.mk H
      clear H
      go_wp2
      go_meet
      case rel=>exact ⟨_,(!t368),(by first|rfl|(simp;done)|(simp [*];done)|(simp [Int.tmod_eq_emod_of_nonneg];done)),H',⟨by have:=HJ5.out;first|omega|exact Nat.le_refl _⟩,⟨by repeat (first|(with_reducible first|exact HB.out|apply yA|apply yB|apply yC)|exact HB.out)⟩⟩
     ·replace c12:=Bool.eq_false_iff.mpr c12
      subst c12
      have H1:(laws_FnStarGap.j1 kj5 t366 t367 false true)=some r:=by rw [if_neg (show ¬ (false=true) by decide)] at H;exact H
      clear H
      have H:=H1
      clear H1
      have H':=Aside0.mk H
      clear H
      go_wp2
      go_meet
      case rel=>exact ⟨_,(true),(by first|rfl|(simp;done)|(simp [*];done)|(simp [Int.tmod_eq_emod_of_nonneg];done)),H',⟨by have:=HJ5.out;first|omega|exact Nat.le_refl _⟩,⟨by repeat (first|(with_reducible first|exact HB.out|apply yA|apply yB|apply yC)|exact HB.out)⟩⟩
    case rest =>
     clear HC11
     try clear c1
     try clear c2
     try clear c2b0
     try clear c2b1
     try clear p2
     try clear c3
     try clear c4
     try clear c5
     try clear c6
     try clear c10
     try clear c10b0
     try clear c10b1
     try clear c12
     try clear p2
     obtain ⟨kq,x38_10,rfl,HA,HJ10,HB⟩:=hcut
     cases kq with
     | zero=>exact absurd HA.out (by simp [laws_FnStarGap.j1])
     | succ kj10 =>
      have H:=HA.out
      clear HA
      simp only [laws_FnStarGap.j1] at H
      by_cases c13:x38_10=true
      ·subst c13
       have H1:(some x8_5)=some r:=by rw [if_pos rfl] at H;exact H
       clear H
       have H:=H1
       clear H1
       obtain rfl:=Option.some.inj H
       go_wp2
       go_ret
       exact ⟨by first|rfl|(simp [errW_none,errW_some]<;>rfl)|(simp [*,errW_none,errW_some]<;>rfl)|(simp [errW_none,errW_some];exact ⟨rfl,rfl⟩),by repeat (first|(with_reducible first|exact HB.out|apply yA|apply yB|apply yC)|exact HB.out)⟩
      ·replace c13:=Bool.eq_false_iff.mpr c13
       subst c13
       have H1:(laws_FnStarGap.l0 kj10 t366 t367 (wrap64 (t367+1)))=some r:=by rw [if_neg (show ¬ (false=true) by decide)] at H;exact H
       clear H
       have H:=H1
       clear H1
       have H':=Aside0.mk H
       clear H
       go_wp2
       go_loopg [9] kj10 (fun kq v9 w'=>∃ (x9_3:Int),v9=.int .i64 x9_3∧Aside0 (laws_FnStarGap.l0 kq t366 t367 x9_3=some r)∧Aside0 (kq≤kj10)∧Aside0 (Below w.heap.size w w'))
       case atStart=>exact ⟨(wrap64 (t367+1)),(by first|rfl|(simp;done)|(simp [*];done)|(simp [Int.tmod_eq_emod_of_nonneg];done)),H',⟨Nat.le_refl _⟩,⟨by repeat (first|(with_reducible first|exact HB.out|apply yA|apply yB|apply yC)|exact HB.out)⟩⟩
       case round =>
        clear H'
        try clear c1
        try clear c2
        try clear c2b0
        try clear c2b1
        try clear p2
        try clear c3
        try clear c4
        try clear c5
        try clear c6
        try clear p6
        try clear c10
        try clear c10b0
        try clear c10b1
        try clear c12
        try clear c13
        try clear p2
        obtain ⟨x9_3,rfl,HA,HK3,HB⟩:=hrel
        cases gk with
        | zero=>exact absurd HA.out (by simp [laws_FnStarGap.l0])
        | succ k3 =>
         have H:=HA.out
         clear HA
         simp only [laws_FnStarGap.l0] at H
         by_cases c14:x9_3≤(wrap64 (t367+40))
         ·rw [if_pos c14] at H
          have c14b0:decide (x9_3≤(wrap64 (t367+40)))=true:=decide_eq_true c14
          clear c14
          replace H:=Option.bind_eq_some_iff.mp H
          obtain ⟨t371,A150,H⟩:=H
          replace H:(if t371=true then (laws_FnStarGap.l0 k3 t366 t367 (wrap64 (x9_3+1))) else (some false))=some r:=H
          have A15:=Aside0.mk A150
          clear A150
          by_cases c16:t371=true
          ·subst c16
           have H1:(laws_FnStarGap.l0 k3 t366 t367 (wrap64 (x9_3+1)))=some r:=by rw [if_pos rfl] at H;exact H
           clear H
           have H:=H1
           clear H1
           have H':=Aside0.mk H
           clear H
           go_wp2_with (first|((with_reducible refine gate_callee (f:=7) rfl ?_);refine goesL_ (some 50) rfl rfl Try.func7 (by kernel_rfl) rfl #[.string t366,.int .i64 x9_3] rfl (by (try simp only [List.map_toArray,List.map_cons,List.map_nil]);first|done|rfl|(simp only [List.length_drop,List.length_take];rfl)) ?_;(with_reducible refine (impl_StarHas.calls k3 t366 x9_3 true _ A15.out).mono ?_);rintro e w17 ⟨rfl,hb⟩;refine ⟨_,rfl,?_⟩;have n0_:=Aside0.mk (yP (by repeat (first|(with_reducible first|exact HB.out|apply yA|apply yB|apply yC)|exact HB.out)) hb);clear HB;have HB:=n0_;clear n0_;(try clear hb);(try clear hb2);(try clear hk);(try clear hi)))
           go_roundg k3
           case measure=>have:=HJ5.out;have:=HJ10.out;have:=HK3.out;omega
           case rel=>exact ⟨(wrap64 (x9_3+1)),(by first|rfl|(simp;done)|(simp [*];done)|(simp [Int.tmod_eq_emod_of_nonneg];done)),H',⟨by have:=HJ5.out;have:=HJ10.out;have:=HK3.out;omega⟩,⟨by repeat (first|(with_reducible first|exact HB.out|apply yA|apply yB|apply yC)|exact HB.out)⟩⟩
          ·replace c16:=Bool.eq_false_iff.mpr c16
           subst c16
           have H1:(some false)=some r:=by rw [if_neg (show ¬ (false=true) by decide)] at H;exact H
           clear H
           have H:=H1
           clear H1
           obtain rfl:=Option.some.inj H
           go_wp2_with (first|((with_reducible refine gate_callee (f:=7) rfl ?_);refine goesL_ (some 50) rfl rfl Try.func7 (by kernel_rfl) rfl #[.string t366,.int .i64 x9_3] rfl (by (try simp only [List.map_toArray,List.map_cons,List.map_nil]);first|done|rfl|(simp only [List.length_drop,List.length_take];rfl)) ?_;(with_reducible refine (impl_StarHas.calls k3 t366 x9_3 false _ A15.out).mono ?_);rintro e w18 ⟨rfl,hb⟩;refine ⟨_,rfl,?_⟩;have n0_:=Aside0.mk (yP (by repeat (first|(with_reducible first|exact HB.out|apply yA|apply yB|apply yC)|exact HB.out)) hb);clear HB;have HB:=n0_;clear n0_;(try clear hb);(try clear hb2);(try clear hk);(try clear hi)))
           go_ret
           exact ⟨by first|rfl|(simp [errW_none,errW_some]<;>rfl)|(simp [*,errW_none,errW_some]<;>rfl)|(simp [errW_none,errW_some];exact ⟨rfl,rfl⟩),by repeat (first|(with_reducible first|exact HB.out|apply yA|apply yB|apply yC)|exact HB.out)⟩
         ·rw [if_neg c14] at H
          have c14b0:decide (x9_3≤(wrap64 (t367+40)))=false:=decide_eq_false c14
          clear c14
          replace H:=Option.bind_eq_some_iff.mp H
          obtain ⟨t372,A190,H⟩:=H
          replace H:(if t372=true then (some false) else (some (decide (t367 ≥ 1))))=some r:=H
          have A19:=Aside0.mk A190
          clear A190
          by_cases c20:t372=true
          ·subst c20
           have H1:(some false)=some r:=by rw [if_pos rfl] at H;exact H
           clear H
           have H:=H1
           clear H1
           obtain rfl:=Option.some.inj H
           go_wp2_with (first|((with_reducible refine gate_callee (f:=7) rfl ?_);refine goesL_ (some 54) rfl rfl Try.func7 (by kernel_rfl) rfl #[.string t366,.int .i64 t367] rfl (by (try simp only [List.map_toArray,List.map_cons,List.map_nil]);first|done|rfl|(simp only [List.length_drop,List.length_take];rfl)) ?_;(with_reducible refine (impl_StarHas.calls k3 t366 t367 true _ A19.out).mono ?_);rintro e w21 ⟨rfl,hb⟩;refine ⟨_,rfl,?_⟩;have n0_:=Aside0.mk (yP (by repeat (first|(with_reducible first|exact HB.out|apply yA|apply yB|apply yC)|exact HB.out)) hb);clear HB;have HB:=n0_;clear n0_;(try clear hb);(try clear hb2);(try clear hk);(try clear hi)))
           go_ret
           exact ⟨by first|rfl|(simp [errW_none,errW_some]<;>rfl)|(simp [*,errW_none,errW_some]<;>rfl)|(simp [errW_none,errW_some];exact ⟨rfl,rfl⟩),by repeat (first|(with_reducible first|exact HB.out|apply yA|apply yB|apply yC)|exact HB.out)⟩
          ·replace c20:=Bool.eq_false_iff.mpr c20
           subst c20
           have H1:(some (decide (t367 ≥ 1)))=some r:=by rw [if_neg (show ¬ (false=true) by decide)] at H;exact H
           clear H
           have H:=H1
           clear H1
           obtain rfl:=Option.some.inj H
           go_wp2_with (first|((with_reducible refine gate_callee (f:=7) rfl ?_);refine goesL_ (some 54) rfl rfl Try.func7 (by kernel_rfl) rfl #[.string t366,.int .i64 t367] rfl (by (try simp only [List.map_toArray,List.map_cons,List.map_nil]);first|done|rfl|(simp only [List.length_drop,List.length_take];rfl)) ?_;(with_reducible refine (impl_StarHas.calls k3 t366 t367 false _ A19.out).mono ?_);rintro e w22 ⟨rfl,hb⟩;refine ⟨_,rfl,?_⟩;have n0_:=Aside0.mk (yP (by repeat (first|(with_reducible first|exact HB.out|apply yA|apply yB|apply yC)|exact HB.out)) hb);clear HB;have HB:=n0_;clear n0_;(try clear hb);(try clear hb2);(try clear hk);(try clear hi)))
           go_ret
           exact ⟨by first|rfl|(simp [errW_none,errW_some]<;>rfl)|(simp [*,errW_none,errW_some]<;>rfl)|(simp [errW_none,errW_some];exact ⟨rfl,rfl⟩),by repeat (first|(with_reducible first|exact HB.out|apply yA|apply yB|apply yC)|exact HB.out)⟩

/-- THE ONE PURE STATEMENT of laws_FnStarGap: yours. -/
noncomputable def laws_FnStarGap.Pure:Prop:=∀ (l0:List Int),l0.length≤maxLen→l0.length * 1≤140737488351232→(∀ x ∈ l0,(Lit.int .u8 x).wf=true)→∃ k,laws_FnStarGap.f k l0=some true
theorem laws_FnStarGap.walk (P:laws_FnStarGap.Pure) (a0:Option Addr) (len0 cap0:Nat) (z0:List Int) (w:World) (w0:(a0=none∧len0=0∧cap0=0∧z0=[]) ∨ ∃ x,a0=some x∧len0≤cap0∧cap0≤maxLen∧z0.length=cap0∧(∀ i,i<z0.length→w.cell? (x.add i)=some (.int .u8 (z0.getD i 0)))∧∀ n ∈ z0,(Lit.int .u8 n).wf=true) (y0:len0 * 1≤140737488351232) :
  Calls Try.prog 3 #[.slice a0 len0 cap0] w fun e w'=>e=.returned (.bool true)∧Below w.heap.size w w':=by
 obtain ⟨l0,rfl,hr0,hm0,hw0,hc0⟩:=ReadsInt.ofRowC w0
 obtain ⟨k,h⟩:=P l0 hm0 y0 hw0
 refine (laws_FnStarGap.calls k _ _ l0 true w (Kd.C_of_reads (d:=(0:Int)) (h1:=fun _=>rfl) hr0) hc0 h).mono ?_
 rintro e w' ⟨rfl,hd⟩
 exact ⟨rfl,hd⟩

end Go.Proofs.Ytnmkinnfbbehnaa.P

-- impl.StarHas.
namespace Go.Proofs.Ytnmkinnfbbehnaa.P
open Go.RowKit Go.Proofs.YtnmkinnfbbehnaaW.PrintWords Go.Proofs.YtnmkinnfbbehnaaW.PrintLast Go.Proofs.YtnmkinnfbbehnaaW.PrintMore
set_option linter.unusedVariables false
set_option linter.unusedSimpArgs false

/-- What StarHas answers. -/
noncomputable def sth (s : List UInt8) (n : Int) : Bool := smallB s && (decide (0 ≤ n ∧ n ≤ 2000) && stq (setf s) n.toNat)
theorem istarHas_f (s : ByteArray) (hs : s.size ≤ 70368744177664) (n : Int) : Ev (fun k => impl_StarHas.f k s n) (sth (chrs s) n) := by
  obtain ⟨x, y, hev, hxy⟩ := small_f s hs
  refine Ev.congr (fun k => rfl) (Ev.bind hev ?_)
  unfold sth
  cases hb : smallB (chrs s) with
  | false => simp only [Bool.false_eq_true, if_false, Bool.false_and]; exact Ev.now _
  | true =>
    simp only [if_true, in_f, Option.bind_some, Bool.true_and]
    by_cases hn : 0 ≤ n ∧ n ≤ 2000
    · obtain ⟨m, rfl⟩ := Int.eq_ofNat_of_zero_le hn.1
      obtain ⟨a, c, hp, hset, hm1, hm2, hpos, hper⟩ := smallB_ok hb
      obtain ⟨rfl, rfl⟩ := hxy (by rw [hp]; rfl)
      have hh1 : hasB (cn (setf (chrs s))).1 (cn (setf (chrs s))).2 = setf (chrs s) := by rw [hset]; exact cn_has (parse_per hp).1 (parse_per hp).2
      have hst := star_f (cn (setf (chrs s))).1 (cn (setf (chrs s))).2 (List.length_pos_iff.1 hpos) (by omega) (by omega) (m + 1) (by omega) (by omega)
      rw [hh1] at hst
      simp only [decide_eq_true hn, if_true, wsucc (show m ≤ 4611686018427387904 by omega), Bool.true_and, Int.toNat_natCast]
      refine Ev.bind hst ?_
      rw [if_pos (by omega), if_pos (by rw [mkT_length]; omega), rdOf_nat, mkT_get _ (Nat.lt_succ_self m)]
      exact Ev.now _
    · simp only [decide_eq_false hn, Bool.false_eq_true, if_false, Bool.false_and]; exact Ev.now _
end Go.Proofs.Ytnmkinnfbbehnaa.P

-- For every code the law FnStarGap holds.
namespace Go.Proofs.Ytnmkinnfbbehnaa.P
open Go.RowKit Go.Proofs.YtnmkinnfbbehnaaW.PrintWords Go.Proofs.YtnmkinnfbbehnaaW.PrintLast Go.Proofs.YtnmkinnfbbehnaaW.PrintMore
set_option linter.unusedVariables false
set_option linter.unusedSimpArgs false

theorem drawStarGap_f (l : List Int) (h : ∀ x ∈ l, (Lit.int .u8 x).wf = true) : ∃ (s : ByteArray), Few s ∧ Ev (fun k => spec_DrawStarGap.f k l) s := by
  obtain ⟨s, q, hf, hq, h0⟩ := set91_f (code_of h) 0 (by omega)
  refine ⟨s, hf, Ev.congr (f := fun k => (spec_l91Set.f k (l.take 2000) 0).bind fun bt134 => some bt134.1) (fun k => ?_) (Ev.bind h0 (Ev.now _))⟩
  unfold spec_DrawStarGap.f
  rw [open_f, Option.bind_some]
theorem lawStarGap_l0 (s : ByteArray) (hs : s.size ≤ 70368744177664) (hb : smallB (chrs s) = true) (x : Nat) (h1 : x < 800) (h2 : stq (setf (chrs s)) x = false) (h3 : ∀ j, x < j → j ≤ x + 40 → stq (setf (chrs s)) j = true) (h4 : 1 ≤ x) : ∀ (d n : Nat), x + 41 - n = d → x < n → n ≤ x + 41 → Ev (fun k => laws_FnStarGap.l0 k s x n) true := by
  have sh : ∀ n : Nat, n ≤ 2000 → sth (chrs s) (n : Int) = stq (setf (chrs s)) n := fun n hn => by
    unfold sth
    rw [hb, decide_eq_true (show (0 : Int) ≤ (n : Int) ∧ (n : Int) ≤ 2000 by omega), Int.toNat_natCast]; rfl
  have e40 : wrap64 ((x : Int) + 40) = ((x + 40 : Nat) : Int) := wadd (j := 40) (by omega)
  intro d
  induction d with
  | zero =>
    intro n hd a b
    have hx := istarHas_f s hs (x : Int)
    rw [sh x (by omega), h2] at hx
    refine Ev.step (f := fun k => (impl_StarHas.f k s (x : Int)).bind fun t => if t = true then some false else some (decide ((x : Int) ≥ 1))) (fun k => ?_) (Ev.bind hx ?_)
    · simp only [laws_FnStarGap.l0, e40]
      rw [if_neg (by omega)]
    · simp only [Bool.false_eq_true, if_false]
      rw [decide_eq_true (by omega)]; exact Ev.now _
  | succ d ih =>
    intro n hd a b
    have hx := istarHas_f s hs (n : Int)
    rw [sh n (by omega), h3 n a (by omega)] at hx
    refine Ev.step (f := fun k => (impl_StarHas.f k s (n : Int)).bind fun t => if t = true then laws_FnStarGap.l0 k s x ((n + 1 : Nat) : Int) else some false) (fun k => ?_) (Ev.bind hx ?_)
    · simp only [laws_FnStarGap.l0, e40]
      rw [if_pos (by omega), wsucc (by omega)]
    · simp only [if_true]
      exact ih (n + 1) (by omega) (by omega) (by omega)
theorem lawStarGap_ev (l : List Int) (h : ∀ x ∈ l, (Lit.int .u8 x).wf = true) : Ev (fun k => laws_FnStarGap.f k l) true := by
  by_cases hl : (l.length : Int) > 1048576
  · exact ⟨0, fun k _ => by dsimp only; unfold laws_FnStarGap.f; rw [if_pos hl]⟩
  · obtain ⟨s, hf, h1⟩ := drawStarGap_f l h
    have hz := hf.size
    have hs : s.size ≤ 70368744177664 := by omega
    have h2 := sstarGap_f s hs
    have h3 := starGap_f s hs
    have main : Ev (fun k => laws_FnStarGap.j0 k s (gapr (chrs s)).1 (gapr (chrs s)).2 true) true := by
      cases hg : (gapr (chrs s)).2 with
      | false =>
        refine Ev.step (f := fun k => laws_FnStarGap.j1 k s (gapr (chrs s)).1 true true) (fun k => ?_) (Ev.step (f := fun k => some true) (fun k => ?_) (Ev.now _))
        · simp only [laws_FnStarGap.j0]; rw [if_pos (by trivial)]; rfl
        · simp only [laws_FnStarGap.j1]; rw [if_pos (by trivial)]
      | true =>
        have hb : smallB (chrs s) = true := by
          cases hb : smallB (chrs s) with
          | true => rfl
          | false => unfold gapr at hg; rw [hb] at hg; simp at hg
        have hge : gapr (chrs s) = gap (stq (setf (chrs s))) := by unfold gapr; rw [if_pos hb]
        obtain ⟨n, e, n1, n2, n3⟩ := gap_true (q := stq (setf (chrs s))) (m := (gapr (chrs s)).1) (by rw [← hge]; exact Prod.ext rfl hg)
        rw [e]
        have hn0 : 1 ≤ n := by
          rcases Nat.eq_zero_or_pos n with x | x
          · rw [x, stq_iff.2 (St.zero _)] at n2; cases n2
          · exact x
        refine Ev.step (f := fun k => laws_FnStarGap.j1 k s n true false) (fun k => ?_) (Ev.step (f := fun k => laws_FnStarGap.l0 k s n ((n + 1 : Nat) : Int)) (fun k => ?_) (lawStarGap_l0 s hs hb n n1 n2 n3 hn0 _ (n + 1) rfl (by omega) (by omega)))
        · simp only [laws_FnStarGap.j0]; rw [if_pos (by trivial)]; rfl
        · simp only [laws_FnStarGap.j1]; rw [if_neg (by decide), wsucc (by omega)]
    refine Ev.congr (f := fun k => (spec_DrawStarGap.f k l).bind fun t366 => ((impl_StarGap.f t366).bind fun bt367 => ((spec_StarGap.f k t366).bind fun bt369 => (if bt367.1 = bt369.1 then (laws_FnStarGap.j0 k t366 bt367.1 bt367.2 (bt367.2 == bt369.2)) else (laws_FnStarGap.j0 k t366 bt367.1 bt367.2 false))))) (fun k => ?_) (Ev.bind h1 ?_)
    · unfold laws_FnStarGap.f; rw [if_neg hl]
    · rw [h3]
      simp only [Option.bind_some]
      refine Ev.bind h2 ?_
      rw [BEq.rfl]
      simp only [if_true]
      exact main
theorem lawStarGap_pure : laws_FnStarGap.Pure := fun l _ _ h => (lawStarGap_ev l h).rounds
end Go.Proofs.Ytnmkinnfbbehnaa.P

-- For every code the law FnStarGap holds.
namespace Go.Proofs.Ytnmkinnfbbehnaa.Pure
theorem FnStarGap : Go.Proofs.Ytnmkinnfbbehnaa.P.laws_FnStarGap.Pure := Go.Proofs.Ytnmkinnfbbehnaa.P.lawStarGap_pure
end Go.Proofs.Ytnmkinnfbbehnaa.Pure
