/- What these laws reach, joined by a program of this session: contracts (written by that program over the kit's print, or by hand) and plain lemmas. -/
import Derived.Test.YtidfckekbaedpaaK1
import Derived.Test.YtidfckekbaedpaaK2
import Derived.Test.YtidfckekbaedpaaK3
-- spec.l1Signs and spec.l1Read read what parse tells.
namespace Go.Proofs.Ytidfckekbaedpaa.P
open Go.RowKit Go.Proofs.YtidfckekbaedpaaW.PrintWords Go.Proofs.YtidfckekbaedpaaW.PrintLast Go.Proofs.YtidfckekbaedpaaW.PrintMore
set_option linter.unusedVariables false
set_option linter.unusedSimpArgs false
theorem signs_ev (s : ByteArray) (hs : s.size ≤ 70368744177664) : ∀ (d : Nat) (i : Nat) (acc : List Bool), i ≤ s.size → s.size - i = d → acc.length ≤ i →
    Ev (fun k => spec_l1Signs.l0 k s acc i) (match bitsL ((chrs s).drop i) with | some l => (acc ++ l, true) | none => ([], false)) := by
  intro d
  induction d with
  | zero =>
    intro i acc hi hd ha
    refine Ev.step (f := fun k => some (acc, true)) (fun k => ?_) ?_
    · simp only [spec_l1Signs.l0]; rw [if_neg (by omega)]
    · have : (chrs s).drop i = [] := by rw [List.drop_eq_nil_iff, chrs_length]; omega
      rw [this]; simp only [bitsL, List.append_nil]; exact Ev.now _
  | succ d ih =>
    intro i acc hi hd ha
    have hlt : i < s.size := by omega
    have hl : i < (chrs s).length := by rw [chrs_length]; exact hlt
    have hdrop : (chrs s).drop i = (chrs s)[i] :: (chrs s).drop (i + 1) := List.drop_eq_getElem_cons hl
    have hw : wrap64 ((i : Int) + 1) = ((i + 1 : Nat) : Int) := by rw [w64 (by omega) (by omega)]; omega
    have hb := bt_chr s hlt
    rw [hdrop]
    by_cases c0 : (chrs s)[i] = 48
    · have e : bt s (i : Int) = 48 := by rw [hb, c0]; rfl
      refine Ev.step (f := fun k => spec_l1Signs.l0 k s (acc ++ [false]) ((i + 1 : Nat) : Int)) (fun k => ?_) ?_
      · simp only [spec_l1Signs.l0]; rw [if_pos (by omega), if_pos (by omega), if_pos e, if_pos (by omega), hw, e]; rfl
      · have := ih (i + 1) (acc ++ [false]) (by omega) (by omega) (by simp; omega)
        simp only [bitsL, if_pos c0]
        cases h : bitsL ((chrs s).drop (i + 1)) with
        | none => rw [h] at this; exact this
        | some l => rw [h] at this; simpa using this
    · by_cases c1 : (chrs s)[i] = 49
      · have e : bt s (i : Int) = 49 := by rw [hb, c1]; rfl
        refine Ev.step (f := fun k => spec_l1Signs.l0 k s (acc ++ [true]) ((i + 1 : Nat) : Int)) (fun k => ?_) ?_
        · simp only [spec_l1Signs.l0]; rw [if_pos (by omega), if_pos (by omega), if_neg (by omega), if_pos e, if_pos (by omega), hw]
        · have := ih (i + 1) (acc ++ [true]) (by omega) (by omega) (by simp; omega)
          simp only [bitsL, if_neg c0, if_pos c1]
          cases h : bitsL ((chrs s).drop (i + 1)) with
          | none => rw [h] at this; exact this
          | some l => rw [h] at this; simpa using this
      · refine Ev.step (f := fun k => some (([] : List Bool), false)) (fun k => ?_) ?_
        · have e0 : ¬ bt s (i : Int) = 48 := by rw [hb]; intro h; exact c0 ((u8_eq (n := 48) (by omega)).1 h)
          have e1 : ¬ bt s (i : Int) = 49 := by rw [hb]; intro h; exact c1 ((u8_eq (n := 49) (by omega)).1 h)
          simp only [spec_l1Signs.l0]; rw [if_pos (by omega), if_pos (by omega), if_neg e0, if_neg e1]
        · simp only [bitsL, if_neg c0, if_neg c1]; exact Ev.now _

theorem signs_f (s : ByteArray) (hs : s.size ≤ 70368744177664) : Ev (fun k => spec_l1Signs.f k s) (match bitsL (chrs s) with | some l => (l, true) | none => ([], false)) := by
  have := signs_ev s hs s.size 0 [] (by omega) (by omega) (by simp)
  simpa [spec_l1Signs.f] using this
theorem read_j2 (s : ByteArray) (hs : s.size ≤ 70368744177664) (t r : List Bool) (hc : (chrs s).findIdx (· == 40) + 2 < s.size) :
    Ev (fun k => spec_l1Read.j2 k s ((chrs s).findIdx (· == 40) : Nat) (bt s ((s.size - 1 : Nat) : Int) != 41) t r) (parsed s t r) := by
  generalize hp : (chrs s).findIdx (· == 40) = p at hc
  by_cases hl : (chrs s)[s.size - 1]? = some 41
  · have e : (bt s ((s.size - 1 : Nat) : Int) != 41) = false := by
      have := (bt_eq' s (i := s.size - 1) (by omega) 41 (by omega)).2 hl
      rw [this]; decide
    rw [e]
    have w1 : wrap64 ((p : Int) + 1) = ((p + 1 : Nat) : Int) := by rw [w64 (by omega) (by omega)]; omega
    have w2 : wrap64 ((s.size : Int) - 1) = ((s.size - 1 : Nat) : Int) := by rw [w64 (by omega) (by omega)]; omega
    have h1 := signs_f (s.extract 0 p) (by simp; omega)
    have h2 := signs_f (s.extract (p + 1) (s.size - 1)) (by simp; omega)
    rw [chrs_extract] at h1 h2
    simp only [List.drop_zero] at h1
    have hP : parse (chrs s) = match bitsL ((chrs s).take p), bitsL (((chrs s).take (s.size - 1)).drop (p + 1)) with
        | some a, some b => if a.length ≤ 60 ∧ b.length ≤ 60 then some (a, b) else none
        | _, _ => none := by
      unfold parse; rw [hp, chrs_length, if_pos ⟨hc, hl⟩] <;> rfl
    refine Ev.step (f := fun k => (spec_l1Signs.f k (s.extract 0 p)).bind fun bt231 => ((spec_l1Signs.f k (s.extract (p + 1) (s.size - 1))).bind fun bt235 => (if bt231.2 = true then (if bt235.2 = true then (if (bt231.1.length : Int) > 60 then (some (t, r, false)) else (if (bt235.1.length : Int) > 60 then (some (t, r, false)) else (some (bt231.1, bt235.1, true)))) else (some (t, r, false))) else (some (t, r, false))))) (fun k => ?_) ?_
    · simp only [spec_l1Read.j2]
      rw [if_neg (by decide), if_pos (by omega), if_pos (by omega), w1, w2]
      simp only [Int.toNat_natCast]
      congr 1; funext x
      rw [if_pos (by omega), if_pos (by omega), if_pos (by omega)]
    · refine Ev.bind h1 (Ev.bind h2 ?_)
      unfold parsed; rw [hP]
      cases b1 : bitsL ((chrs s).take p) with
      | none => exact Ev.now _
      | some a =>
        cases b2 : bitsL (((chrs s).take (s.size - 1)).drop (p + 1)) with
        | none => exact Ev.now _
        | some b =>
          simp only [if_true]
          by_cases la : a.length ≤ 60
          · by_cases lb : b.length ≤ 60
            · rw [if_neg (by omega), if_neg (by omega), if_pos ⟨la, lb⟩]; exact Ev.now _
            · rw [if_neg (by omega), if_pos (by omega), if_neg (by omega)]; exact Ev.now _
          · rw [if_pos (by omega), if_neg (by omega)]; exact Ev.now _
  · have e : (bt s ((s.size - 1 : Nat) : Int) != 41) = true := by
      rw [bne_iff_ne]; intro h; exact hl ((bt_eq' s (i := s.size - 1) (by omega) 41 (by omega)).1 h)
    rw [e]
    have hP : parse (chrs s) = none := by unfold parse; rw [hp, chrs_length, if_neg (by rintro ⟨_, h⟩; exact hl h)]
    refine Ev.step (f := fun k => some (t, r, false)) (fun k => ?_) ?_
    · simp only [spec_l1Read.j2]; rw [if_pos trivial]
    · unfold parsed; rw [hP]; exact Ev.now _

theorem read_j1 (s : ByteArray) (hs : s.size ≤ 70368744177664) (t r : List Bool) :
    Ev (fun k => spec_l1Read.j1 k s ((chrs s).findIdx (· == 40) : Nat) t r) (parsed s t r) := by
  have hp := (chrs s).findIdx_le_length (p := (· == 40))
  rw [chrs_length] at hp
  by_cases hc : (chrs s).findIdx (· == 40) + 2 < s.size
  · have w2 : wrap64 ((s.size : Int) - 1) = ((s.size - 1 : Nat) : Int) := by rw [w64 (by omega) (by omega)]; omega
    refine Ev.step (fun k => ?_) (read_j2 s hs t r hc)
    simp only [spec_l1Read.j1]
    rw [w2, w64 (x := ((chrs s).findIdx (· == 40) : Int) + 2) (by omega) (by omega), if_neg (by omega), if_pos (by omega), if_pos (by omega)]
  · have hP : parse (chrs s) = none := by unfold parse; rw [chrs_length, if_neg (by rintro ⟨h, _⟩; exact hc h)]
    refine Ev.step (f := fun k => spec_l1Read.j2 k s ((chrs s).findIdx (· == 40) : Nat) true t r) (fun k => ?_) (Ev.step (f := fun k => some (t, r, false)) (fun k => ?_) ?_)
    · simp only [spec_l1Read.j1]
      rw [w64 (x := ((chrs s).findIdx (· == 40) : Int) + 2) (by omega) (by omega), if_pos (by omega)]
    · simp only [spec_l1Read.j2]; rw [if_pos trivial]
    · unfold parsed; rw [hP]; exact Ev.now _

theorem read_l0 (s : ByteArray) (hs : s.size ≤ 70368744177664) (t r : List Bool) : ∀ (d i : Nat), i ≤ (chrs s).findIdx (· == 40) → (chrs s).findIdx (· == 40) - i = d →
    Ev (fun k => spec_l1Read.l0 k s i t r) (parsed s t r) := by
  have hp := (chrs s).findIdx_le_length (p := (· == 40))
  rw [chrs_length] at hp
  intro d
  induction d with
  | zero =>
    intro i hi hd
    have e : (chrs s).findIdx (· == 40) = i := by omega
    refine Ev.step (fun k => ?_) (read_j1 s hs t r)
    simp only [spec_l1Read.l0]
    by_cases hlt : i < s.size
    · have h1 : bt s (i : Int) = 40 := by
        refine (bt_eq s hlt 40 (by omega)).2 ?_
        have := List.findIdx_getElem (p := (· == 40)) (xs := chrs s) (w := by rw [e, chrs_length]; exact hlt)
        simpa [e] using this
      rw [if_pos (by omega), if_pos (by omega), if_pos h1, e]
    · rw [if_neg (by omega), e]
  | succ d ih =>
    intro i hi hd
    have hlt : i < s.size := by omega
    have h1 : ¬ bt s (i : Int) = 40 := by
      refine fun hb => absurd ((bt_eq s hlt 40 (by omega)).1 hb) ?_
      have := List.not_of_lt_findIdx (p := (· == 40)) (xs := chrs s) (i := i) (by omega)
      simpa using this
    have hw : wrap64 ((i : Int) + 1) = ((i + 1 : Nat) : Int) := by rw [w64 (by omega) (by omega)]; omega
    refine Ev.step (fun k => ?_) (ih (i + 1) (by omega) (by omega))
    simp only [spec_l1Read.l0]
    rw [if_pos (by omega), if_pos (by omega), if_neg h1, hw]

theorem read_f (s : ByteArray) (hs : s.size ≤ 70368744177664) : Ev (fun k => spec_l1Read.f k s) (parsed s [] [false]) := by
  have := read_l0 s hs [] [false] _ 0 (by omega) rfl
  simpa [spec_l1Read.f] using this

end Go.Proofs.Ytidfckekbaedpaa.P

-- impl.setOf reads what parse tells.
namespace Go.Proofs.Ytidfckekbaedpaa.P
open Go.RowKit Go.Proofs.YtidfckekbaedpaaW.PrintWords Go.Proofs.YtidfckekbaedpaaW.PrintLast Go.Proofs.YtidfckekbaedpaaW.PrintMore
set_option linter.unusedVariables false
set_option linter.unusedSimpArgs false
theorem index1_f (s : ByteArray) (c : UInt8) : stringslite_Index.f s ⟨#[c]⟩ = some (if (chrs s).findIdx (· == c) < s.size then (((chrs s).findIdx (· == c) : Nat) : Int) else -1) := by
  unfold stringslite_Index.f; rw [if_pos (show (⟨#[c]⟩ : ByteArray).size = 1 from rfl)]; rfl
theorem cut_f (s : ByteArray) (c : UInt8) (hs : s.size ≤ 70368744177664) : strings_Cut.f s ⟨#[c]⟩ = some (if (chrs s).findIdx (· == c) < s.size then (s.extract 0 ((chrs s).findIdx (· == c)), s.extract ((chrs s).findIdx (· == c) + 1) s.size, true) else (s, ⟨#[]⟩, false)) := by
  unfold strings_Cut.f stringslite_Cut.f
  rw [index1_f]
  simp only [Option.bind_some]
  generalize (chrs s).findIdx (· == c) = p
  by_cases h : p < s.size
  · rw [if_pos h]
    have hw : wrap64 ((p : Int) + ((⟨#[c]⟩ : ByteArray).size : Int)) = ((p + 1 : Nat) : Int) := by
      have : (⟨#[c]⟩ : ByteArray).size = 1 := rfl
      rw [this, w64 (by omega) (by omega)]; omega
    rw [if_pos (by omega), if_pos (by omega), if_pos (by omega), hw, if_pos (by omega), if_pos (by omega), if_pos h]
    simp only [Int.toNat_natCast, Option.bind_some]
  · rw [if_neg h, if_neg (by omega), if_neg h]; rfl
theorem suffix_f (s : ByteArray) (c : UInt8) (hs : s.size ≤ 70368744177664) : strings_CutSuffix.f s ⟨#[c]⟩ = some (if (chrs s)[s.size - 1]? = some c then (s.extract 0 (s.size - 1), true) else (s, false)) := by
  unfold strings_CutSuffix.f stringslite_CutSuffix.f stringslite_HasSuffix.f
  have h1 : (⟨#[c]⟩ : ByteArray).size = 1 := rfl
  rw [h1]
  by_cases h : s.size = 0
  · rw [if_neg (by omega)]
    have : chrs s = [] := List.eq_nil_of_length_eq_zero (by rw [chrs_length]; exact h)
    simp [this]
  · have hw : wrap64 ((s.size : Int) - ((1 : Nat) : Int)) = ((s.size - 1 : Nat) : Int) := by rw [w64 (by omega) (by omega)]; omega
    rw [if_pos (by omega), hw, if_pos (by omega), if_pos (by omega)]
    simp only [Option.bind_some, Int.toNat_natCast]
    have e : (((s.extract (s.size - 1) s.size).toList == (⟨#[c]⟩ : ByteArray).toList) = true) ↔ (chrs s)[s.size - 1]? = some c := by
      rw [beq_iff_eq, ByteArray.toList_eq, ByteArray.toList_eq]
      show chrs _ = [c] ↔ _
      rw [chrs_extract, List.take_of_length_le (by rw [chrs_length]; omega)]
      have hl : s.size - 1 < (chrs s).length := by rw [chrs_length]; omega
      rw [List.drop_eq_getElem_cons hl, List.drop_of_length_le (by rw [chrs_length]; omega), List.getElem?_eq_getElem hl]
      simp
    by_cases hc : (chrs s)[s.size - 1]? = some c
    · rw [if_pos (e.2 hc), if_pos (by omega), if_pos (by omega), if_pos hc]; rfl
    · rw [if_neg (fun h => hc (e.1 h)), if_neg hc]; rfl

theorem isigns_ev (s : ByteArray) (hs : s.size ≤ 70368744177664) : ∀ (d : Nat) (i : Nat) (acc : List Bool), i ≤ s.size → s.size - i = d → acc.length ≤ i →
    Ev (fun k => impl_signs.l0 k acc (bytesOf s) ((bytesOf s).length : Int) i) (match bitsL ((chrs s).drop i) with | some l => (acc ++ l, decide ((acc ++ l).length ≤ 60)) | none => ([], false)) := by
  intro d
  induction d with
  | zero =>
    intro i acc hi hd ha
    refine Ev.step (f := fun k => some (acc, decide ((acc.length : Int) ≤ 60))) (fun k => ?_) ?_
    · simp only [impl_signs.l0, bytesOf_length]; rw [if_neg (by omega)]
    · have : (chrs s).drop i = [] := by rw [List.drop_eq_nil_iff, chrs_length]; omega
      rw [this]; simp only [bitsL, List.append_nil]
      have e : decide ((acc.length : Int) ≤ 60) = decide (acc.length ≤ 60) := by apply decide_eq_decide.2; omega
      rw [e]; exact Ev.now _
  | succ d ih =>
    intro i acc hi hd ha
    have hlt : i < s.size := by omega
    have hl : i < (chrs s).length := by rw [chrs_length]; exact hlt
    have hdrop : (chrs s).drop i = (chrs s)[i] :: (chrs s).drop (i + 1) := List.drop_eq_getElem_cons hl
    have hw : wrap64 ((i : Int) + 1) = ((i + 1 : Nat) : Int) := by rw [w64 (by omega) (by omega)]; omega
    have hb := bt_chr s hlt
    rw [hdrop]
    by_cases c0 : (chrs s)[i] = 48
    · have e : bt s (i : Int) = 48 := by rw [hb, c0]; rfl
      refine Ev.step (f := fun k => impl_signs.l0 k (acc ++ [false]) (bytesOf s) ((bytesOf s).length : Int) ((i + 1 : Nat) : Int)) (fun k => ?_) ?_
      · simp only [impl_signs.l0, bytesOf_length, rd_bytesOf]; rw [if_pos (by omega), if_pos (by omega), if_pos (by omega), if_pos e, if_pos (by omega), hw, e]; rfl
      · have := ih (i + 1) (acc ++ [false]) (by omega) (by omega) (by simp; omega)
        simp only [bitsL, if_pos c0]
        cases h : bitsL ((chrs s).drop (i + 1)) with
        | none => rw [h] at this; exact this
        | some l => rw [h] at this; simpa using this
    · by_cases c1 : (chrs s)[i] = 49
      · have e : bt s (i : Int) = 49 := by rw [hb, c1]; rfl
        refine Ev.step (f := fun k => impl_signs.l0 k (acc ++ [true]) (bytesOf s) ((bytesOf s).length : Int) ((i + 1 : Nat) : Int)) (fun k => ?_) ?_
        · simp only [impl_signs.l0, bytesOf_length, rd_bytesOf]; rw [if_pos (by omega), if_pos (by omega), if_pos (by omega), if_neg (by omega), if_pos e, if_pos (by omega), hw]
        · have := ih (i + 1) (acc ++ [true]) (by omega) (by omega) (by simp; omega)
          simp only [bitsL, if_neg c0, if_pos c1]
          cases h : bitsL ((chrs s).drop (i + 1)) with
          | none => rw [h] at this; exact this
          | some l => rw [h] at this; simpa using this
      · refine Ev.step (f := fun k => some (([] : List Bool), false)) (fun k => ?_) ?_
        · have e0 : ¬ bt s (i : Int) = 48 := by rw [hb]; intro h; exact c0 ((u8_eq (n := 48) (by omega)).1 h)
          have e1 : ¬ bt s (i : Int) = 49 := by rw [hb]; intro h; exact c1 ((u8_eq (n := 49) (by omega)).1 h)
          simp only [impl_signs.l0, bytesOf_length, rd_bytesOf]; rw [if_pos (by omega), if_pos (by omega), if_pos (by omega), if_neg e0, if_neg e1]
        · simp only [bitsL, if_neg c0, if_neg c1]; exact Ev.now _

/-- What impl.signs answers. -/
def sgns (s : List UInt8) : List Bool × Bool := match bitsL s with | some l => (l, decide (l.length ≤ 60)) | none => ([], false)
theorem isigns_f (s : ByteArray) (hs : s.size ≤ 70368744177664) : Ev (fun k => impl_signs.f k s) (sgns (chrs s)) := by
  have := isigns_ev s hs s.size 0 [] (by omega) (by omega) (by simp)
  unfold sgns
  refine Ev.congr (fun k => ?_) (by simpa using this)
  unfold impl_signs.f bytesConv.f; rw [if_pos hs]; simp only [Option.bind_some, bytesOf_length]

/-- What impl.setOf answers, out of its parts. -/
def setFin (o e : Bool) (X Y : List Bool × Bool) : List Bool × List Bool × Bool := (X.1, Y.1, o && e && X.2 && Y.2 && decide (0 < Y.1.length))
theorem setOf_ev (s A R B : ByteArray) (o e : Bool) (h1 : strings_Cut.f s ⟨#[40]⟩ = some (A, R, o)) (h2 : strings_CutSuffix.f R ⟨#[41]⟩ = some (B, e)) (hA : A.size ≤ 70368744177664) (hB : B.size ≤ 70368744177664) :
    Ev (fun k => impl_setOf.f k s) (setFin o e (sgns (chrs A)) (sgns (chrs B))) := by
  refine Ev.congr (f := fun k => (impl_signs.f k A).bind fun X => (impl_signs.f k B).bind fun Y => some (setFin o e X Y)) (fun k => ?_) (Ev.bind (isigns_f A hA) (Ev.bind (isigns_f B hB) (Ev.now _)))
  unfold impl_setOf.f
  rw [h1]
  simp only [Option.bind_some]
  rw [h2]
  simp only [Option.bind_some]
  congr 1; funext X; congr 1; funext Y
  unfold setFin
  have ed : decide ((Y.1.length : Int) > 0) = decide (0 < Y.1.length) := by apply decide_eq_decide.2; omega
  rw [ed]
  cases o <;> cases e <;> rcases X with ⟨x, _ | _⟩ <;> rcases Y with ⟨y, _ | _⟩ <;> simp

theorem setOf_f (s : ByteArray) (hs : s.size ≤ 70368744177664) : ∃ x y, Ev (fun k => impl_setOf.f k s) (x, y, (parse (chrs s)).isSome) ∧ ∀ a b, parse (chrs s) = some (a, b) → x = a ∧ y = b := by
  have hp := (chrs s).findIdx_le_length (p := (· == 40))
  rw [chrs_length] at hp
  have h1 := cut_f s 40 hs
  -- out of the parts
  have fin : ∀ A R B o e, strings_Cut.f s ⟨#[40]⟩ = some (A, R, o) → strings_CutSuffix.f R ⟨#[41]⟩ = some (B, e) → A.size ≤ s.size → B.size ≤ s.size → (setFin o e (sgns (chrs A)) (sgns (chrs B))).2.2 = (parse (chrs s)).isSome → (∀ a b, parse (chrs s) = some (a, b) → (sgns (chrs A)).1 = a ∧ (sgns (chrs B)).1 = b) →
      ∃ x y, Ev (fun k => impl_setOf.f k s) (x, y, (parse (chrs s)).isSome) ∧ ∀ a b, parse (chrs s) = some (a, b) → x = a ∧ y = b := fun A R B o e g1 g2 g3 g4 g5 g6 => by
    have := setOf_ev s A R B o e g1 g2 (by omega) (by omega)
    refine ⟨(sgns (chrs A)).1, (sgns (chrs B)).1, ?_, g6⟩
    rw [← g5]; exact this
  by_cases h : (chrs s).findIdx (· == 40) < s.size
  · rw [if_pos h] at h1
    have hsz : (s.extract ((chrs s).findIdx (· == 40) + 1) s.size).size = s.size - ((chrs s).findIdx (· == 40) + 1) := by simp
    have h2 := suffix_f (s.extract ((chrs s).findIdx (· == 40) + 1) s.size) 41 (by omega)
    have he : (chrs (s.extract ((chrs s).findIdx (· == 40) + 1) s.size))[(s.extract ((chrs s).findIdx (· == 40) + 1) s.size).size - 1]? = if (chrs s).findIdx (· == 40) + 1 < s.size then (chrs s)[s.size - 1]? else none := by
      rw [chrs_extract, List.take_of_length_le (by rw [chrs_length]; omega), hsz, List.getElem?_drop]
      split
      · congr 1; omega
      · exact List.getElem?_eq_none (by rw [chrs_length]; omega)
    rw [he] at h2
    have hP : parse (chrs s) = if (chrs s).findIdx (· == 40) + 2 < s.size ∧ (chrs s)[s.size - 1]? = some 41 then
        match bitsL ((chrs s).take ((chrs s).findIdx (· == 40))), bitsL (((chrs s).take (s.size - 1)).drop ((chrs s).findIdx (· == 40) + 1)) with
        | some a, some b => if a.length ≤ 60 ∧ b.length ≤ 60 then some (a, b) else none
        | _, _ => none else none := by unfold parse; rw [chrs_length] <;> rfl
    have hc1 : chrs (s.extract 0 ((chrs s).findIdx (· == 40))) = (chrs s).take ((chrs s).findIdx (· == 40)) := by rw [chrs_extract, List.drop_zero]
    have hA : (s.extract 0 ((chrs s).findIdx (· == 40))).size ≤ s.size := by simp; omega
    generalize hq : (chrs s).findIdx (· == 40) = p at *
    by_cases h3 : (if p + 1 < s.size then (chrs s)[s.size - 1]? else none) = some 41
    · rw [if_pos h3] at h2
      have h4 : p + 1 < s.size := by
        refine Classical.byContradiction fun hn => ?_
        rw [if_neg hn] at h3; cases h3
      rw [if_pos h4] at h3
      have hc2 : chrs ((s.extract (p + 1) s.size).extract 0 ((s.extract (p + 1) s.size).size - 1)) = ((chrs s).take (s.size - 1)).drop (p + 1) := by
        rw [chrs_extract, chrs_extract, List.drop_zero, show (chrs s).take s.size = chrs s from List.take_of_length_le (by rw [chrs_length]; omega), hsz, List.drop_take]
        congr 1; omega
      have hl2 : (((chrs s).take (s.size - 1)).drop (p + 1)).length = s.size - 1 - (p + 1) := by rw [List.length_drop, List.length_take, chrs_length]; omega
      have hP2 : parse (chrs s) = match bitsL ((chrs s).take p), bitsL (((chrs s).take (s.size - 1)).drop (p + 1)) with
          | some a, some b => if p + 2 < s.size ∧ (a.length ≤ 60 ∧ b.length ≤ 60) then some (a, b) else none
          | _, _ => none := by
        rw [hP]
        by_cases h5 : p + 2 < s.size
        · rw [if_pos ⟨h5, h3⟩]
          split <;> simp_all
        · rw [if_neg (by rintro ⟨x, _⟩; exact h5 x)]
          split
          · rw [if_neg (by rintro ⟨x, _⟩; exact h5 x)]
          · rfl
      refine fin _ _ _ _ _ h1 h2 hA (by simp; omega) ?_ ?_
      · rw [hc1, hc2, hP2]
        unfold setFin sgns
        cases b1 : bitsL ((chrs s).take p) with
        | none => simp
        | some a =>
          cases b2 : bitsL (((chrs s).take (s.size - 1)).drop (p + 1)) with
          | none => simp
          | some b =>
            have hbl := bitsL_length b2
            rw [hl2] at hbl
            have hb0 : decide (0 < b.length) = decide (p + 2 < s.size) := by apply decide_eq_decide.2; omega
            simp only [hb0]
            by_cases la : a.length ≤ 60 <;> by_cases lb : b.length ≤ 60 <;> by_cases h5 : p + 2 < s.size <;> simp [la, lb, h5]
      · rw [hc1, hc2, hP2]
        unfold sgns
        intro a' b' hab
        cases b1 : bitsL ((chrs s).take p) with
        | none => rw [b1] at hab; cases hab
        | some a =>
          cases b2 : bitsL (((chrs s).take (s.size - 1)).drop (p + 1)) with
          | none => rw [b1, b2] at hab; cases hab
          | some b =>
            rw [b1, b2] at hab
            simp only at hab
            split at hab
            · simp only [Option.some.injEq, Prod.mk.injEq] at hab; exact hab
            · cases hab
    · rw [if_neg h3] at h2
      have hPn : parse (chrs s) = none := by
        rw [hP, if_neg]
        rintro ⟨x, y⟩
        exact h3 (by rw [if_pos (by omega)]; exact y)
      refine fin _ _ _ _ _ h1 h2 hA (by simp) ?_ ?_
      · rw [hPn]; simp [setFin]
      · intro a b hab; rw [hPn] at hab; cases hab
  · rw [if_neg h] at h1
    have hPn : parse (chrs s) = none := by
      unfold parse; rw [chrs_length, if_neg]; rintro ⟨x, _⟩; omega
    have h2 := suffix_f (⟨#[]⟩ : ByteArray) 41 (by decide)
    rw [if_neg (by rw [byteArray_empty_chrs]; simp)] at h2
    refine fin _ _ _ _ _ h1 h2 (Nat.le_refl _) (by show 0 ≤ _; omega) ?_ ?_
    · rw [hPn]; simp [setFin]
    · intro a b hab; rw [hPn] at hab; cases hab

end Go.Proofs.Ytidfckekbaedpaa.P

-- impl.set.text writes the text of a set.
namespace Go.Proofs.Ytidfckekbaedpaa.P
open Go.RowKit Go.Proofs.YtidfckekbaedpaaW.PrintWords Go.Proofs.YtidfckekbaedpaaW.PrintLast Go.Proofs.YtidfckekbaedpaaW.PrintMore
set_option linter.unusedVariables false
set_option linter.unusedSimpArgs false

theorem told_f (l : List Bool) (h : l.length ≤ 70368744177664) : impl_told.f l = some ⟨(l.map sgn).toArray⟩ := by unfold impl_told.f; rw [if_pos h]
theorem text_f (t r : List Bool) (hl : t.length + r.length ≤ 70368744177664) : Ev (fun k => impl_set_text.f k t r) (txt (t, r)) := by
  have hj : ∀ b : Bool, (b = true ↔ ¬ (t.length ≤ 60 ∧ r.length ≤ 60)) → Ev (fun k => impl_set_text.j0 k b t r) (txt (t, r)) := by
    intro b hb
    cases b with
    | true =>
      refine Ev.step (f := fun k => some ((⟨#[]⟩ : ByteArray), false)) (fun k => ?_) ?_
      · simp only [impl_set_text.j0]; rw [if_pos trivial]
      · unfold txt; rw [if_neg (hb.1 rfl)]; exact Ev.now _
    | false =>
      have hb2 : t.length ≤ 60 ∧ r.length ≤ 60 := Classical.byContradiction fun h => absurd (hb.2 h) (by decide)
      have e1 : (⟨(t.map sgn).toArray⟩ : ByteArray).size = t.length := by show (t.map sgn).toArray.size = _; simp
      have e2 : (⟨(r.map sgn).toArray⟩ : ByteArray).size = r.length := by show (r.map sgn).toArray.size = _; simp
      refine Ev.step (f := fun k => some (textOf t r, true)) (fun k => ?_) ?_
      · simp only [impl_set_text.j0]
        rw [if_neg (by decide), told_f t (by omega)]
        simp only [Option.bind_some]
        rw [if_pos (by omega), told_f r (by omega)]
        simp only [Option.bind_some]
        rw [if_pos (by omega), if_pos (by omega)]
        congr 2
      · rw [txt_ok hb2.1 hb2.2]; exact Ev.now _
  unfold impl_set_text.f
  by_cases h : t.length ≤ 60
  · have h1 := hj (decide ((r.length : Int) > 60)) (by rw [decide_eq_true_iff]; omega)
    refine Ev.congr (fun k => ?_) h1
    rw [if_neg (by omega)]
  · have h1 := hj true (by simp; intro h2; omega)
    refine Ev.congr (fun k => ?_) h1
    rw [if_pos (by omega)]

end Go.Proofs.Ytidfckekbaedpaa.P

-- impl.turns and tidy come to the tidy form.
namespace Go.Proofs.Ytidfckekbaedpaa.P
open Go.RowKit Go.Proofs.YtidfckekbaedpaaW.PrintWords Go.Proofs.YtidfckekbaedpaaW.PrintLast Go.Proofs.YtidfckekbaedpaaW.PrintMore
set_option linter.unusedVariables false
set_option linter.unusedSimpArgs false
theorem turns_l0 (r : List Bool) (d : Nat) (hd : 0 < d) (hdl : d ≤ r.length) (hl : r.length ≤ 70368744177664) : ∀ (m i : Nat), i ≤ r.length → r.length - i = m →
    (∀ j, j < i → r.getD j false = r.getD (j % d) false) → ∃ b, Ev (fun k => impl_turns.l0 k r d r.length i) b ∧ (b = true ↔ IsPer r d) := by
  intro m
  induction m with
  | zero =>
    intro i h1 h2 h3
    have e : i = r.length := by omega
    refine ⟨((r.length : Int) % (d : Int)) == 0, Ev.step (f := fun k => some (((r.length : Int) % (d : Int)) == 0)) (fun k => ?_) (Ev.now _), ?_⟩
    · simp only [impl_turns.l0]; rw [if_neg (by omega), if_neg (by omega)]
    · have hm : (r.length : Int) % (d : Int) = ((r.length % d : Nat) : Int) := rfl
      rw [beq_iff_eq, hm]
      constructor
      · intro h; exact IsPer.of_mod (by omega) hd (fun j hj => h3 j (by omega))
      · intro h; have := h.1; omega
  | succ m ih =>
    intro i h1 h2 h3
    have hmod : Int.tmod (i : Int) (d : Int) = ((i % d : Nat) : Int) := by rw [Int.tmod_eq_emod_of_nonneg (by omega)]; rfl
    have hml := Nat.mod_lt i hd
    have hw : wrap64 ((i : Int) + 1) = ((i + 1 : Nat) : Int) := by rw [w64 (by omega) (by omega)]; omega
    by_cases he : r.getD i false = r.getD (i % d) false
    · obtain ⟨b, hb, hbi⟩ := ih (i + 1) (by omega) (by omega) (fun j hj => by
        rcases Nat.lt_or_ge j i with h | h
        · exact h3 j h
        · have : j = i := by omega
          subst this; exact he)
      refine ⟨b, Ev.step (fun k => ?_) hb, hbi⟩
      simp only [impl_turns.l0]
      rw [if_pos (by omega), if_pos (by omega), if_pos (by omega), if_neg (by omega), hmod, if_pos (by omega), if_pos (by omega), rdOf_nat, rdOf_nat, if_neg (by rw [he]; simp), hw]
    · refine ⟨false, Ev.step (f := fun k => some false) (fun k => ?_) (Ev.now _), ?_⟩
      · simp only [impl_turns.l0]
        rw [if_pos (by omega), if_pos (by omega), if_pos (by omega), if_neg (by omega), hmod, if_pos (by omega), if_pos (by omega), rdOf_nat, rdOf_nat, if_pos (by rw [bne_iff_ne]; exact he)]
      · constructor
        · intro h; exact absurd h (by decide)
        · intro h; exact absurd (h.mod hd i (by omega)) he
theorem turns_f (r : List Bool) (d : Nat) (hd : 0 < d) (hdl : d ≤ r.length) (hl : r.length ≤ 70368744177664) : ∃ b, Ev (fun k => impl_turns.f k r d) b ∧ (b = true ↔ IsPer r d) := by
  obtain ⟨b, h, hb⟩ := turns_l0 r d hd hdl hl _ 0 (by omega) rfl (fun j hj => by omega)
  exact ⟨b, by simpa [impl_turns.f] using h, hb⟩
theorem clone_f (l : List Bool) (h : l.length ≤ 70368744177664) : slices_Clone_bool_bool.f l = some l := by unfold slices_Clone_bool_bool.f; rw [if_pos h]

theorem tidy_l1 : ∀ (n : Nat) (t r : List Bool), t.length = n → Prim r → t.length + r.length ≤ 70368744177664 → ∃ t' r', Ev (fun k => impl_set_tidy.l1 k r.length t r) (t', r') ∧ Tidy t r t' r' := by
  intro n
  induction n with
  | zero =>
    intro t r hn hp hl
    have ht : t = [] := List.eq_nil_of_length_eq_zero hn
    subst ht
    refine ⟨[], r, Ev.step (f := fun k => some (([] : List Bool), r)) (fun k => ?_) (Ev.now _), ⟨hp, .inl rfl⟩, fun _ => rfl, Nat.le_refl _, Nat.le_refl _⟩
    simp only [impl_set_tidy.l1]; rw [if_neg (by simp)]
  | succ n ih =>
    intro t r hn hp hl
    have hr := hp.1
    have hpos := List.length_pos_iff.2 hr
    have ht : t ≠ [] := by intro e; rw [e] at hn; simp at hn
    have w1 : wrap64 ((t.length : Int) - 1) = ((t.length - 1 : Nat) : Int) := by rw [w64 (by omega) (by omega)]; omega
    have w2 : wrap64 ((r.length : Int) - 1) = ((r.length - 1 : Nat) : Int) := by rw [w64 (by omega) (by omega)]; omega
    by_cases he : t.getD (t.length - 1) false = r.getD (r.length - 1) false
    · obtain ⟨t', r', hev, htd⟩ := ih (t.take (t.length - 1)) (rotR r) (by rw [List.length_take]; omega) (prim_rot hp) (by rw [rotR_length hr, List.length_take]; omega)
      rw [rotR_length hr] at hev
      refine ⟨t', r', Ev.step (fun k => ?_) hev, htd.canon, fun x => by rw [htd.has, rot_has ht hr he], by have := htd.tl; rw [List.length_take] at this; omega, by have := htd.rl; rw [rotR_length hr] at this; omega⟩
      simp only [impl_set_tidy.l1]
      rw [if_pos (by omega), w1, w2, if_pos (by omega), if_pos (by omega), if_pos (by omega), if_pos (by omega), rdOf_nat, rdOf_nat, if_pos (by rw [he]; exact beq_self_eq_true _), if_pos (by omega)]
      simp only [Option.bind_some]
      rw [if_pos (by omega)]
      simp only [Int.toNat_natCast]
      rw [if_pos (by simp; omega)]
      rfl
    · refine ⟨t, r, Ev.step (f := fun k => some (t, r)) (fun k => ?_) (Ev.now _), ⟨hp, .inr he⟩, fun _ => rfl, Nat.le_refl _, Nat.le_refl _⟩
      simp only [impl_set_tidy.l1]
      rw [if_pos (by omega), w1, w2, if_pos (by omega), if_pos (by omega), if_pos (by omega), if_pos (by omega), rdOf_nat, rdOf_nat, if_neg (by rw [beq_iff_eq]; exact he)]

theorem tidy_l0 (t r : List Bool) (hr : r ≠ []) (hl : t.length + r.length ≤ 70368744177664) : ∀ (m d : Nat), 0 < d → d ≤ r.length → r.length - d = m → (∀ d', 0 < d' → d' < d → ¬ IsPer r d') →
    ∃ t' r', Ev (fun k => impl_set_tidy.l0 k d t r) (t', r') ∧ Tidy t r t' r' := by
  have hpos := List.length_pos_iff.2 hr
  have hn : IsPer r r.length := ⟨Nat.mod_self _, fun i a b => by omega⟩
  intro m
  induction m with
  | zero =>
    intro d h0 h1 h2 h3
    have e : d = r.length := by omega
    obtain ⟨b, hb, hbi⟩ := turns_f r d h0 h1 (by omega)
    have hbt : b = true := hbi.2 (by rw [e]; exact hn)
    have hp : IsPer r d := hbi.1 hbt
    subst hbt
    have hlt : (r.take d).length = d := by rw [List.length_take]; omega
    obtain ⟨t', r', hev, htd⟩ := tidy_l1 _ t (r.take d) rfl (prim_take h0 h1 hp h3) (by omega)
    rw [hlt] at hev
    refine ⟨t', r', Ev.step (f := fun k => (impl_turns.f k r d).bind fun t161 => (if t161 = true then impl_set_tidy.l1 k d t (r.take d) else (impl_set_tidy.l0 k (wrap64 (d + 1)) t r))) (fun k => ?_) (Ev.bind hb (by simpa using hev)), htd.canon, fun x => by rw [htd.has, take_has hp h0 h1], htd.tl, by have := htd.rl; omega⟩
    simp only [impl_set_tidy.l0]
    congr 1; funext x
    rw [clone_f _ (by omega)]
    simp only [Option.bind_some, Int.toNat_natCast]
    cases x with
    | true => rw [if_pos rfl, if_pos rfl, if_pos (by omega), if_pos (by omega), clone_f _ (by rw [hlt]; omega)]; rfl
    | false => rw [if_neg (by decide), if_neg (by decide)]
  | succ m ih =>
    intro d h0 h1 h2 h3
    obtain ⟨b, hb, hbi⟩ := turns_f r d h0 h1 (by omega)
    have hw : wrap64 ((d : Int) + 1) = ((d + 1 : Nat) : Int) := by rw [w64 (by omega) (by omega)]; omega
    have hlt : (r.take d).length = d := by rw [List.length_take]; omega
    have st : ∀ k, impl_set_tidy.l0 (k + 1) d t r = (impl_turns.f k r d).bind fun t161 => (if t161 = true then impl_set_tidy.l1 k d t (r.take d) else (impl_set_tidy.l0 k ((d + 1 : Nat) : Int) t r)) := fun k => by
      simp only [impl_set_tidy.l0]
      congr 1; funext x
      rw [clone_f _ (by omega)]
      simp only [Option.bind_some, Int.toNat_natCast]
      cases x with
      | true => rw [if_pos rfl, if_pos rfl, if_pos (by omega), if_pos (by omega), clone_f _ (by rw [hlt]; omega)]; rfl
      | false => rw [if_neg (by decide), if_neg (by decide), hw]
    by_cases hp : IsPer r d
    · have hbt := hbi.2 hp
      subst hbt
      obtain ⟨t', r', hev, htd⟩ := tidy_l1 _ t (r.take d) rfl (prim_take h0 h1 hp h3) (by omega)
      rw [hlt] at hev
      exact ⟨t', r', Ev.step st (Ev.bind hb (by simpa using hev)), htd.canon, fun x => by rw [htd.has, take_has hp h0 h1], htd.tl, by have := htd.rl; omega⟩
    · have hbt : b = false := by cases b; rfl; exact absurd (hbi.1 rfl) hp
      subst hbt
      obtain ⟨t', r', hev, htd⟩ := ih (d + 1) (by omega) (by omega) (by omega) (fun d' a b => by
            rcases Nat.lt_or_ge d' d with h | h
            · exact h3 d' a h
            · have : d' = d := by omega
              subst this; exact hp)
      exact ⟨t', r', Ev.step st (Ev.bind hb (by simpa using hev)), htd⟩
theorem tidy_f (t r : List Bool) (hr : r ≠ []) (hl : t.length + r.length ≤ 70368744177664) : ∃ t' r', Ev (fun k => impl_set_tidy.f k t r) (t', r') ∧ Tidy t r t' r' := by
  have hpos := List.length_pos_iff.2 hr
  obtain ⟨t', r', h, htd⟩ := tidy_l0 t r hr hl _ 1 (by omega) (by omega) rfl (fun d a b => by omega)
  exact ⟨t', r', by simpa [impl_set_tidy.f] using h, htd⟩

theorem tidy_cn (t r : List Bool) (hr : r ≠ []) (hl : t.length + r.length ≤ 70368744177664) : Ev (fun k => impl_set_tidy.f k t r) (cn (hasB t r)) := by
  obtain ⟨t', r', h, ht⟩ := tidy_f t r hr hl
  rw [ht.cn]; exact h

end Go.Proofs.Ytidfckekbaedpaa.P

-- impl.tidied reads and makes tidy.
namespace Go.Proofs.Ytidfckekbaedpaa.P
open Go.RowKit Go.Proofs.YtidfckekbaedpaaW.PrintWords Go.Proofs.YtidfckekbaedpaaW.PrintLast Go.Proofs.YtidfckekbaedpaaW.PrintMore
set_option linter.unusedVariables false
set_option linter.unusedSimpArgs false

/-- What impl.tidied answers. -/
noncomputable def tdd (s : List UInt8) : List Bool × List Bool × Bool := match parse s with | some (a, b) => ((cn (hasB a b)).1, (cn (hasB a b)).2, true) | none => ([], [], false)
theorem tidied_f (s : ByteArray) (hs : s.size ≤ 70368744177664) : Ev (fun k => impl_tidied.f k s) (tdd (chrs s)) := by
  obtain ⟨x, y, h, hp⟩ := setOf_f s hs
  unfold tdd
  cases h0 : parse (chrs s) with
  | none =>
    rw [h0] at h
    refine Ev.congr (f := fun k => (impl_setOf.f k s).bind fun bt186 => (if bt186.2.2 = true then ((impl_set_tidy.f k bt186.1 bt186.2.1).bind fun bt194 => (some (bt194.1, bt194.2, true))) else (some (([] : List Bool), ([] : List Bool), false)))) (fun k => rfl) (Ev.bind h (by simpa using Ev.now _))
  | some ab =>
    obtain ⟨a, b⟩ := ab
    obtain ⟨rfl, rfl⟩ := hp a b h0
    rw [h0] at h
    have hb := parse_some h0
    have ht := tidy_cn x y hb.2.2 (by omega)
    refine Ev.congr (f := fun k => (impl_setOf.f k s).bind fun bt186 => (if bt186.2.2 = true then ((impl_set_tidy.f k bt186.1 bt186.2.1).bind fun bt194 => (some (bt194.1, bt194.2, true))) else (some (([] : List Bool), ([] : List Bool), false)))) (fun k => rfl) (Ev.bind h ?_)
    simp only [Option.isSome_some, if_true]
    exact Ev.bind ht (Ev.now _)

end Go.Proofs.Ytidfckekbaedpaa.P

-- spec.l1Write writes the text of a tail and a ring.
namespace Go.Proofs.Ytidfckekbaedpaa.P
open Go.RowKit Go.Proofs.YtidfckekbaedpaaW.PrintWords Go.Proofs.YtidfckekbaedpaaW.PrintLast Go.Proofs.YtidfckekbaedpaaW.PrintMore
set_option linter.unusedVariables false
set_option linter.unusedSimpArgs false
theorem write_byte (b : Bool) : (spec_l1Bit.f b) = some (if b then 1 else 0) := by cases b <;> rfl
theorem bt_sgn (b : Bool) : bt (⟨#[48, 49]⟩ : ByteArray) (if b then 1 else 0) = sgnI b := by cases b <;> decide
theorem write_l1 (t r : List Bool) (hr : r.length ≤ 1000000) : ∀ (d i : Nat) (acc : List Int), i ≤ r.length → r.length - i = d → acc.length ≤ 4000000 + i →
    Ev (fun k => spec_l1Write.l1 k acc i t r) (strOfNums (acc ++ (r.drop i).map sgnI ++ [41])) := by
  intro d
  induction d with
  | zero =>
    intro i acc hi hd ha
    have : r.drop i = [] := by rw [List.drop_eq_nil_iff]; omega
    rw [this]
    refine Ev.step (f := fun k => some (strOfNums (acc ++ [41]))) (fun k => ?_) (by simpa using Ev.now _)
    simp only [spec_l1Write.l1]; rw [if_neg (by omega), if_pos (by omega)]
  | succ d ih =>
    intro i acc hi hd ha
    have hw : wrap64 ((i : Int) + 1) = ((i + 1 : Nat) : Int) := by rw [w64 (by omega) (by omega)]; omega
    refine Ev.step (f := fun k => spec_l1Write.l1 k (acc ++ [sgnI (r.getD i false)]) ((i + 1 : Nat) : Int) t r) (fun k => ?_) ?_
    · simp only [spec_l1Write.l1]
      rw [if_pos (by omega), if_pos (by omega), rdOf_nat, write_byte]
      simp only [Option.bind_some]
      rw [if_pos (by split <;> decide), if_pos (by split <;> decide), if_pos (by omega), bt_sgn, hw]
    · have := ih (i + 1) (acc ++ [sgnI (r.getD i false)]) (by omega) (by omega) (by simp; omega)
      rw [drop_getD (show i < r.length by omega)]
      simpa using this
theorem write_l0 (t r : List Bool) (ht : t.length ≤ 1000000) (hr : r.length ≤ 1000000) : ∀ (d i : Nat) (acc : List Int), i ≤ t.length → t.length - i = d → acc.length ≤ i →
    Ev (fun k => spec_l1Write.l0 k acc i t r) (strOfNums (acc ++ (t.drop i).map sgnI ++ [40] ++ r.map sgnI ++ [41])) := by
  intro d
  induction d with
  | zero =>
    intro i acc hi hd ha
    have : t.drop i = [] := by rw [List.drop_eq_nil_iff]; omega
    rw [this]
    have h := write_l1 t r hr r.length 0 (acc ++ [40]) (by omega) (by omega) (by simp; omega)
    refine Ev.step (f := fun k => spec_l1Write.l1 k (acc ++ [40]) 0 t r) (fun k => ?_) (by simpa using h)
    simp only [spec_l1Write.l0]; rw [if_neg (by omega), if_pos (by omega)]
  | succ d ih =>
    intro i acc hi hd ha
    have hw : wrap64 ((i : Int) + 1) = ((i + 1 : Nat) : Int) := by rw [w64 (by omega) (by omega)]; omega
    refine Ev.step (f := fun k => spec_l1Write.l0 k (acc ++ [sgnI (t.getD i false)]) ((i + 1 : Nat) : Int) t r) (fun k => ?_) ?_
    · simp only [spec_l1Write.l0]
      rw [if_pos (by omega), if_pos (by omega), rdOf_nat, write_byte]
      simp only [Option.bind_some]
      rw [if_pos (by split <;> decide), if_pos (by split <;> decide), if_pos (by omega), bt_sgn, hw]
    · have := ih (i + 1) (acc ++ [sgnI (t.getD i false)]) (by omega) (by omega) (by simp; omega)
      rw [drop_getD (show i < t.length by omega)]
      simpa using this
theorem write_f (t r : List Bool) (ht : t.length ≤ 1000000) (hr : r.length ≤ 1000000) : Ev (fun k => spec_l1Write.f k t r) (textOf t r) := by
  have := write_l0 t r ht hr t.length 0 [] (by omega) (by omega) (by simp)
  have e : strOfNums (t.map sgnI ++ [40] ++ r.map sgnI ++ [41]) = textOf t r := by
    simp only [strOfNums, textOf, List.map_append, List.map_map]
    have : (fun n : Int => UInt8.ofNat n.toNat) ∘ sgnI = sgn := by funext b; cases b <;> rfl
    rw [this]; rfl
  rw [← e]
  simpa [spec_l1Write.f] using this


end Go.Proofs.Ytidfckekbaedpaa.P
