/- What these laws reach, joined by a program of this session: contracts (written by that program over the kit's print, or by hand) and plain lemmas. -/
import Derived.Test.YtahbpbjgkmcedaaK1
import Derived.Test.YtahbpbjgkmcedaaK2
import Derived.Test.YtahbpbjgkmcedaaK3
-- spec.l1Less comes to the tidy form.
namespace Go.Proofs.Ytahbpbjgkmcedaa.P
open Go.RowKit Go.Proofs.YtahbpbjgkmcedaaW.PrintWords Go.Proofs.YtahbpbjgkmcedaaW.PrintLast Go.Proofs.YtahbpbjgkmcedaaW.PrintMore
set_option linter.unusedVariables false
set_option linter.unusedSimpArgs false
/-- The search for a lesser ring: from divisor d on, and place i. -/
theorem less_l1 (t r : List Bool) (R : List Bool × List Bool) (hr : r.length ≤ 70368744177664) (d : Nat) (hd : 0 < d) (hdl : d < r.length)
    (hno : ¬ IsPer r d → Ev (fun k => spec_l1Less.l0 k r.length ((d + 1 : Nat) : Int) t r) R)
    (hyes : IsPer r d → Ev (fun k => spec_l1Less.f k t (r.take d)) R) :
    ∀ (m i : Nat), d ≤ i → i ≤ r.length → r.length - i = m → ∀ b : Bool, (b = true ↔ r.length % d = 0 ∧ ∀ j, d ≤ j → j < i → r.getD j false = r.getD (j - d) false) →
      Ev (fun k => spec_l1Less.l1 k r.length d b i t r) R := by
  have hw : wrap64 ((d : Int) + 1) = ((d + 1 : Nat) : Int) := by rw [w64 (by omega) (by omega)]; omega
  intro m
  induction m with
  | zero =>
    intro i h1 h2 h3 b hb
    have e : i = r.length := by omega
    subst e
    cases b with
    | true =>
      refine Ev.step (f := fun k => (spec_l1Less.f k t (r.take d)).bind fun bt273 => (some (bt273.1, bt273.2))) (fun k => ?_) (Ev.bind (hyes ?_) (Ev.now _))
      · simp only [spec_l1Less.l1]; rw [if_neg (by omega), if_pos trivial, if_pos (by omega), if_pos (by omega)]; rfl
      · exact ⟨(hb.1 rfl).1, (hb.1 rfl).2⟩
    | false =>
      refine Ev.step (f := fun k => spec_l1Less.l0 k r.length ((d + 1 : Nat) : Int) t r) (fun k => ?_) (hno ?_)
      · simp only [spec_l1Less.l1]; rw [if_neg (by omega), if_neg (by decide), hw]
      · intro hp; exact absurd (hb.2 ⟨hp.1, hp.2⟩) (by decide)
  | succ m ih =>
    intro i h1 h2 h3 b hb
    cases b with
    | true =>
      have hi : wrap64 ((i : Int) + 1) = ((i + 1 : Nat) : Int) := by rw [w64 (by omega) (by omega)]; omega
      have hs : wrap64 ((i : Int) - (d : Int)) = ((i - d : Nat) : Int) := by rw [w64 (by omega) (by omega)]; omega
      refine Ev.step (f := fun k => spec_l1Less.l1 k r.length d (r.getD i false == r.getD (i - d) false) ((i + 1 : Nat) : Int) t r) (fun k => ?_) (ih (i + 1) (by omega) (by omega) (by omega) _ ?_)
      · simp only [spec_l1Less.l1]
        rw [if_pos (by omega), if_pos trivial, if_pos (by omega), if_pos (by omega), hs, if_pos (by omega), if_pos (by omega), hi, rdOf_nat, rdOf_nat]
      · have hb' := hb.1 rfl
        rw [beq_iff_eq]
        constructor
        · intro he
          refine ⟨hb'.1, fun j hj hj2 => ?_⟩
          rcases Nat.lt_or_ge j i with hlt | hge
          · exact hb'.2 j hj hlt
          · have : j = i := by omega
            subst this; exact he
        · intro hh; exact hh.2 i h1 (by omega)
    | false =>
      refine Ev.step (f := fun k => spec_l1Less.l0 k r.length ((d + 1 : Nat) : Int) t r) (fun k => ?_) (hno ?_)
      · simp only [spec_l1Less.l1]; rw [if_pos (by omega), if_neg (by decide), hw]
      · intro hp; exact absurd (hb.2 ⟨hp.1, fun j hj hj2 => hp.2 j hj (by omega)⟩) (by decide)

theorem less_f : ∀ (n : Nat) (t r : List Bool), t.length + r.length = n → r ≠ [] → n ≤ 70368744177664 → ∃ t' r', Ev (fun k => spec_l1Less.f k t r) (t', r') ∧ Tidy t r t' r' := by
  intro n
  induction n using Nat.strongRecOn with
  | _ n ih =>
    intro t r hn hr hl
    have hpos := List.length_pos_iff.2 hr
    -- at the search's end
    have hend : (∀ d, 0 < d → d < r.length → ¬ IsPer r d) → ∃ t' r', Ev (fun k => spec_l1Less.l0 k r.length (r.length : Int) t r) (t', r') ∧ Tidy t r t' r' := by
      intro hno
      have hprim := prim_of hr hno
      by_cases ht : t = []
      · subst ht
        refine ⟨[], r, Ev.step (f := fun k => some (([] : List Bool), r)) (fun k => ?_) (Ev.now _), ⟨hprim, .inl rfl⟩, fun _ => rfl, Nat.le_refl _, Nat.le_refl _⟩
        simp only [spec_l1Less.l0]; rw [if_neg (by omega), if_neg (by simp)]
      · have htp := List.length_pos_iff.2 ht
        have w1 : wrap64 ((t.length : Int) - 1) = ((t.length - 1 : Nat) : Int) := by rw [w64 (by omega) (by omega)]; omega
        have w2 : wrap64 ((r.length : Int) - 1) = ((r.length - 1 : Nat) : Int) := by rw [w64 (by omega) (by omega)]; omega
        by_cases he : t.getD (t.length - 1) false = r.getD (r.length - 1) false
        · obtain ⟨t', r', hev, htd⟩ := ih _ (by have := rotR_length hr; rw [this, List.length_take]; omega) (t.take (t.length - 1)) (rotR r) rfl (by simp [rotR]) (by rw [rotR_length hr, List.length_take]; omega)
          refine ⟨t', r', Ev.step (f := fun k => (spec_l1Less.f k (t.take (t.length - 1)) (rotR r)).bind fun bt260 => (some (bt260.1, bt260.2))) (fun k => ?_) (Ev.bind hev (Ev.now _)), htd.canon, fun x => by rw [htd.has, rot_has ht hr he], by have := htd.tl; rw [List.length_take] at this; omega, by have := htd.rl; rw [rotR_length hr] at this; omega⟩
          simp only [spec_l1Less.l0]
          rw [if_neg (by omega), if_pos (by omega), w1, w2, if_pos (by omega), if_pos (by omega), if_pos (by omega), if_pos (by omega), rdOf_nat, rdOf_nat, if_pos (by rw [he]; exact beq_self_eq_true _)]
          simp only [Option.bind_some]
          rw [if_pos (by omega)]
          simp only [Int.toNat_natCast]
          rw [if_pos (by simp; omega), if_pos (by omega)]
          rfl
        · refine ⟨t, r, Ev.step (f := fun k => some (t, r)) (fun k => ?_) (Ev.now _), ⟨hprim, .inr he⟩, fun _ => rfl, Nat.le_refl _, Nat.le_refl _⟩
          simp only [spec_l1Less.l0]
          rw [if_neg (by omega), if_pos (by omega), w1, w2, if_pos (by omega), if_pos (by omega), if_pos (by omega), if_pos (by omega), rdOf_nat, rdOf_nat, if_neg (by rw [beq_iff_eq]; exact he)]
    -- the search
    have hsearch : ∀ (m d : Nat), 0 < d → d ≤ r.length → r.length - d = m → (∀ d', 0 < d' → d' < d → ¬ IsPer r d') → ∃ t' r', Ev (fun k => spec_l1Less.l0 k r.length (d : Int) t r) (t', r') ∧ Tidy t r t' r' := by
      intro m
      induction m with
      | zero =>
        intro d h0 h1 h2 h3
        have e : d = r.length := by omega
        subst e
        exact hend h3
      | succ m ihm =>
        intro d h0 h1 h2 h3
        have hmod : Int.tmod (r.length : Int) (d : Int) = ((r.length % d : Nat) : Int) := by rw [Int.tmod_eq_emod_of_nonneg (by omega)]; rfl
        have step : ∀ R, Ev (fun k => spec_l1Less.l1 k r.length d ((Int.tmod (r.length : Int) (d : Int)) == 0) d t r) R → Ev (fun k => spec_l1Less.l0 k r.length (d : Int) t r) R := fun R h => by
          refine Ev.step (fun k => ?_) h
          simp only [spec_l1Less.l0]; rw [if_pos (by omega), if_neg (by omega)]
        have hb : ((Int.tmod (r.length : Int) (d : Int)) == 0) = true ↔ r.length % d = 0 ∧ ∀ j, d ≤ j → j < d → r.getD j false = r.getD (j - d) false := by
          rw [hmod, beq_iff_eq]
          constructor
          · intro h; exact ⟨by omega, fun j a b => by omega⟩
          · rintro ⟨h, _⟩; rw [h]; rfl
        by_cases hp : IsPer r d
        · have hlt : (r.take d).length = d := by rw [List.length_take]; omega
          obtain ⟨t', r', hev, htd⟩ := ih (t.length + (r.take d).length) (by omega) t (r.take d) rfl (by intro e; rw [e] at hlt; simp at hlt; omega) (by omega)
          refine ⟨t', r', step _ (less_l1 t r _ (by omega) d h0 (by omega) (fun h => absurd hp h) (fun _ => hev) _ d (Nat.le_refl _) (by omega) rfl _ hb), htd.canon, fun x => by rw [htd.has, take_has hp h0 h1], htd.tl, by have := htd.rl; omega⟩
        · obtain ⟨t', r', hev, htd⟩ := ihm (d + 1) (by omega) (by omega) (by omega) (fun d' a b => by
            rcases Nat.lt_or_ge d' d with h | h
            · exact h3 d' a h
            · have : d' = d := by omega
              subst this; exact hp)
          exact ⟨t', r', step _ (less_l1 t r _ (by omega) d h0 (by omega) (fun _ => hev) (fun h => absurd h hp) _ d (Nat.le_refl _) (by omega) rfl _ hb), htd⟩
    obtain ⟨t', r', hev, htd⟩ := hsearch (r.length - 1) 1 (by omega) (by omega) rfl (fun d' a b => by omega)
    exact ⟨t', r', Ev.step (fun k => by simp only [spec_l1Less.f]; rfl) hev, htd⟩

theorem less_cn (t r : List Bool) (hr : r ≠ []) (hl : t.length + r.length ≤ 70368744177664) : Ev (fun k => spec_l1Less.f k t r) (cn (hasB t r)) := by
  obtain ⟨t', r', h, ht⟩ := less_f _ t r rfl hr hl
  rw [ht.cn]; exact h

end Go.Proofs.Ytahbpbjgkmcedaa.P

-- spec.l1Signs and spec.l1Read read what parse tells.
namespace Go.Proofs.Ytahbpbjgkmcedaa.P
open Go.RowKit Go.Proofs.YtahbpbjgkmcedaaW.PrintWords Go.Proofs.YtahbpbjgkmcedaaW.PrintLast Go.Proofs.YtahbpbjgkmcedaaW.PrintMore
set_option linter.unusedVariables false
set_option linter.unusedSimpArgs false
theorem signs_ev (s : ByteArray) (hs : s.size ≤ 70368744177664) : ∀ (d : Nat) (i : Nat) (acc : List Bool), i ≤ s.size → s.size - i = d → acc.length ≤ i →
    Ev (fun k => spec_l1Signs.l0 k s acc i) (match bitsL ((chrs s).drop i) with | some l => (acc ++ l, true) | none => ([], false)) := by
  intro d
  induction d with
  | zero =>
    intro i acc hi hd ha
    refine Ev.step (f := fun k => some (acc, true)) (fun k => ?_) ?_
    · simp only [spec_l1Signs.l0]; rw [if_neg (by omega)]
    · have : (chrs s).drop i = [] := by rw [List.drop_eq_nil_iff, chrs_length]; omega
      rw [this]; simp only [bitsL, List.append_nil]; exact Ev.now _
  | succ d ih =>
    intro i acc hi hd ha
    have hlt : i < s.size := by omega
    have hl : i < (chrs s).length := by rw [chrs_length]; exact hlt
    have hdrop : (chrs s).drop i = (chrs s)[i] :: (chrs s).drop (i + 1) := List.drop_eq_getElem_cons hl
    have hw : wrap64 ((i : Int) + 1) = ((i + 1 : Nat) : Int) := by rw [w64 (by omega) (by omega)]; omega
    have hb := bt_chr s hlt
    rw [hdrop]
    by_cases c0 : (chrs s)[i] = 48
    · have e : bt s (i : Int) = 48 := by rw [hb, c0]; rfl
      refine Ev.step (f := fun k => spec_l1Signs.l0 k s (acc ++ [false]) ((i + 1 : Nat) : Int)) (fun k => ?_) ?_
      · simp only [spec_l1Signs.l0]; rw [if_pos (by omega), if_pos (by omega), if_pos e, if_pos (by omega), hw, e]; rfl
      · have := ih (i + 1) (acc ++ [false]) (by omega) (by omega) (by simp; omega)
        simp only [bitsL, if_pos c0]
        cases h : bitsL ((chrs s).drop (i + 1)) with
        | none => rw [h] at this; exact this
        | some l => rw [h] at this; simpa using this
    · by_cases c1 : (chrs s)[i] = 49
      · have e : bt s (i : Int) = 49 := by rw [hb, c1]; rfl
        refine Ev.step (f := fun k => spec_l1Signs.l0 k s (acc ++ [true]) ((i + 1 : Nat) : Int)) (fun k => ?_) ?_
        · simp only [spec_l1Signs.l0]; rw [if_pos (by omega), if_pos (by omega), if_neg (by omega), if_pos e, if_pos (by omega), hw]
        · have := ih (i + 1) (acc ++ [true]) (by omega) (by omega) (by simp; omega)
          simp only [bitsL, if_neg c0, if_pos c1]
          cases h : bitsL ((chrs s).drop (i + 1)) with
          | none => rw [h] at this; exact this
          | some l => rw [h] at this; simpa using this
      · refine Ev.step (f := fun k => some (([] : List Bool), false)) (fun k => ?_) ?_
        · have e0 : ¬ bt s (i : Int) = 48 := by rw [hb]; intro h; exact c0 ((u8_eq (n := 48) (by omega)).1 h)
          have e1 : ¬ bt s (i : Int) = 49 := by rw [hb]; intro h; exact c1 ((u8_eq (n := 49) (by omega)).1 h)
          simp only [spec_l1Signs.l0]; rw [if_pos (by omega), if_pos (by omega), if_neg e0, if_neg e1]
        · simp only [bitsL, if_neg c0, if_neg c1]; exact Ev.now _

theorem signs_f (s : ByteArray) (hs : s.size ≤ 70368744177664) : Ev (fun k => spec_l1Signs.f k s) (match bitsL (chrs s) with | some l => (l, true) | none => ([], false)) := by
  have := signs_ev s hs s.size 0 [] (by omega) (by omega) (by simp)
  simpa [spec_l1Signs.f] using this
theorem read_j2 (s : ByteArray) (hs : s.size ≤ 70368744177664) (t r : List Bool) (hc : (chrs s).findIdx (· == 40) + 2 < s.size) :
    Ev (fun k => spec_l1Read.j2 k s ((chrs s).findIdx (· == 40) : Nat) (bt s ((s.size - 1 : Nat) : Int) != 41) t r) (parsed s t r) := by
  generalize hp : (chrs s).findIdx (· == 40) = p at hc
  by_cases hl : (chrs s)[s.size - 1]? = some 41
  · have e : (bt s ((s.size - 1 : Nat) : Int) != 41) = false := by
      have := (bt_eq' s (i := s.size - 1) (by omega) 41 (by omega)).2 hl
      rw [this]; decide
    rw [e]
    have w1 : wrap64 ((p : Int) + 1) = ((p + 1 : Nat) : Int) := by rw [w64 (by omega) (by omega)]; omega
    have w2 : wrap64 ((s.size : Int) - 1) = ((s.size - 1 : Nat) : Int) := by rw [w64 (by omega) (by omega)]; omega
    have h1 := signs_f (s.extract 0 p) (by simp; omega)
    have h2 := signs_f (s.extract (p + 1) (s.size - 1)) (by simp; omega)
    rw [chrs_extract] at h1 h2
    simp only [List.drop_zero] at h1
    have hP : parse (chrs s) = match bitsL ((chrs s).take p), bitsL (((chrs s).take (s.size - 1)).drop (p + 1)) with
        | some a, some b => if a.length ≤ 60 ∧ b.length ≤ 60 then some (a, b) else none
        | _, _ => none := by
      unfold parse; rw [hp, chrs_length, if_pos ⟨hc, hl⟩] <;> rfl
    refine Ev.step (f := fun k => (spec_l1Signs.f k (s.extract 0 p)).bind fun bt231 => ((spec_l1Signs.f k (s.extract (p + 1) (s.size - 1))).bind fun bt235 => (if bt231.2 = true then (if bt235.2 = true then (if (bt231.1.length : Int) > 60 then (some (t, r, false)) else (if (bt235.1.length : Int) > 60 then (some (t, r, false)) else (some (bt231.1, bt235.1, true)))) else (some (t, r, false))) else (some (t, r, false))))) (fun k => ?_) ?_
    · simp only [spec_l1Read.j2]
      rw [if_neg (by decide), if_pos (by omega), if_pos (by omega), w1, w2]
      simp only [Int.toNat_natCast]
      congr 1; funext x
      rw [if_pos (by omega), if_pos (by omega), if_pos (by omega)]
    · refine Ev.bind h1 (Ev.bind h2 ?_)
      unfold parsed; rw [hP]
      cases b1 : bitsL ((chrs s).take p) with
      | none => exact Ev.now _
      | some a =>
        cases b2 : bitsL (((chrs s).take (s.size - 1)).drop (p + 1)) with
        | none => exact Ev.now _
        | some b =>
          simp only [if_true]
          by_cases la : a.length ≤ 60
          · by_cases lb : b.length ≤ 60
            · rw [if_neg (by omega), if_neg (by omega), if_pos ⟨la, lb⟩]; exact Ev.now _
            · rw [if_neg (by omega), if_pos (by omega), if_neg (by omega)]; exact Ev.now _
          · rw [if_pos (by omega), if_neg (by omega)]; exact Ev.now _
  · have e : (bt s ((s.size - 1 : Nat) : Int) != 41) = true := by
      rw [bne_iff_ne]; intro h; exact hl ((bt_eq' s (i := s.size - 1) (by omega) 41 (by omega)).1 h)
    rw [e]
    have hP : parse (chrs s) = none := by unfold parse; rw [hp, chrs_length, if_neg (by rintro ⟨_, h⟩; exact hl h)]
    refine Ev.step (f := fun k => some (t, r, false)) (fun k => ?_) ?_
    · simp only [spec_l1Read.j2]; rw [if_pos trivial]
    · unfold parsed; rw [hP]; exact Ev.now _

theorem read_j1 (s : ByteArray) (hs : s.size ≤ 70368744177664) (t r : List Bool) :
    Ev (fun k => spec_l1Read.j1 k s ((chrs s).findIdx (· == 40) : Nat) t r) (parsed s t r) := by
  have hp := (chrs s).findIdx_le_length (p := (· == 40))
  rw [chrs_length] at hp
  by_cases hc : (chrs s).findIdx (· == 40) + 2 < s.size
  · have w2 : wrap64 ((s.size : Int) - 1) = ((s.size - 1 : Nat) : Int) := by rw [w64 (by omega) (by omega)]; omega
    refine Ev.step (fun k => ?_) (read_j2 s hs t r hc)
    simp only [spec_l1Read.j1]
    rw [w2, w64 (x := ((chrs s).findIdx (· == 40) : Int) + 2) (by omega) (by omega), if_neg (by omega), if_pos (by omega), if_pos (by omega)]
  · have hP : parse (chrs s) = none := by unfold parse; rw [chrs_length, if_neg (by rintro ⟨h, _⟩; exact hc h)]
    refine Ev.step (f := fun k => spec_l1Read.j2 k s ((chrs s).findIdx (· == 40) : Nat) true t r) (fun k => ?_) (Ev.step (f := fun k => some (t, r, false)) (fun k => ?_) ?_)
    · simp only [spec_l1Read.j1]
      rw [w64 (x := ((chrs s).findIdx (· == 40) : Int) + 2) (by omega) (by omega), if_pos (by omega)]
    · simp only [spec_l1Read.j2]; rw [if_pos trivial]
    · unfold parsed; rw [hP]; exact Ev.now _

theorem read_l0 (s : ByteArray) (hs : s.size ≤ 70368744177664) (t r : List Bool) : ∀ (d i : Nat), i ≤ (chrs s).findIdx (· == 40) → (chrs s).findIdx (· == 40) - i = d →
    Ev (fun k => spec_l1Read.l0 k s i t r) (parsed s t r) := by
  have hp := (chrs s).findIdx_le_length (p := (· == 40))
  rw [chrs_length] at hp
  intro d
  induction d with
  | zero =>
    intro i hi hd
    have e : (chrs s).findIdx (· == 40) = i := by omega
    refine Ev.step (fun k => ?_) (read_j1 s hs t r)
    simp only [spec_l1Read.l0]
    by_cases hlt : i < s.size
    · have h1 : bt s (i : Int) = 40 := by
        refine (bt_eq s hlt 40 (by omega)).2 ?_
        have := List.findIdx_getElem (p := (· == 40)) (xs := chrs s) (w := by rw [e, chrs_length]; exact hlt)
        simpa [e] using this
      rw [if_pos (by omega), if_pos (by omega), if_pos h1, e]
    · rw [if_neg (by omega), e]
  | succ d ih =>
    intro i hi hd
    have hlt : i < s.size := by omega
    have h1 : ¬ bt s (i : Int) = 40 := by
      refine fun hb => absurd ((bt_eq s hlt 40 (by omega)).1 hb) ?_
      have := List.not_of_lt_findIdx (p := (· == 40)) (xs := chrs s) (i := i) (by omega)
      simpa using this
    have hw : wrap64 ((i : Int) + 1) = ((i + 1 : Nat) : Int) := by rw [w64 (by omega) (by omega)]; omega
    refine Ev.step (fun k => ?_) (ih (i + 1) (by omega) (by omega))
    simp only [spec_l1Read.l0]
    rw [if_pos (by omega), if_pos (by omega), if_neg h1, hw]

theorem read_f (s : ByteArray) (hs : s.size ≤ 70368744177664) : Ev (fun k => spec_l1Read.f k s) (parsed s [] [false]) := by
  have := read_l0 s hs [] [false] _ 0 (by omega) rfl
  simpa [spec_l1Read.f] using this

end Go.Proofs.Ytahbpbjgkmcedaa.P

-- impl.setOf reads what parse tells.
namespace Go.Proofs.Ytahbpbjgkmcedaa.P
open Go.RowKit Go.Proofs.YtahbpbjgkmcedaaW.PrintWords Go.Proofs.YtahbpbjgkmcedaaW.PrintLast Go.Proofs.YtahbpbjgkmcedaaW.PrintMore
set_option linter.unusedVariables false
set_option linter.unusedSimpArgs false
theorem index1_f (s : ByteArray) (c : UInt8) : stringslite_Index.f s ⟨#[c]⟩ = some (if (chrs s).findIdx (· == c) < s.size then (((chrs s).findIdx (· == c) : Nat) : Int) else -1) := by
  unfold stringslite_Index.f; rw [if_pos (show (⟨#[c]⟩ : ByteArray).size = 1 from rfl)]; rfl
theorem cut_f (s : ByteArray) (c : UInt8) (hs : s.size ≤ 70368744177664) : strings_Cut.f s ⟨#[c]⟩ = some (if (chrs s).findIdx (· == c) < s.size then (s.extract 0 ((chrs s).findIdx (· == c)), s.extract ((chrs s).findIdx (· == c) + 1) s.size, true) else (s, ⟨#[]⟩, false)) := by
  unfold strings_Cut.f stringslite_Cut.f
  rw [index1_f]
  simp only [Option.bind_some]
  generalize (chrs s).findIdx (· == c) = p
  by_cases h : p < s.size
  · rw [if_pos h]
    have hw : wrap64 ((p : Int) + ((⟨#[c]⟩ : ByteArray).size : Int)) = ((p + 1 : Nat) : Int) := by
      have : (⟨#[c]⟩ : ByteArray).size = 1 := rfl
      rw [this, w64 (by omega) (by omega)]; omega
    rw [if_pos (by omega), if_pos (by omega), if_pos (by omega), hw, if_pos (by omega), if_pos (by omega), if_pos h]
    simp only [Int.toNat_natCast, Option.bind_some]
  · rw [if_neg h, if_neg (by omega), if_neg h]; rfl
theorem suffix_f (s : ByteArray) (c : UInt8) (hs : s.size ≤ 70368744177664) : strings_CutSuffix.f s ⟨#[c]⟩ = some (if (chrs s)[s.size - 1]? = some c then (s.extract 0 (s.size - 1), true) else (s, false)) := by
  unfold strings_CutSuffix.f stringslite_CutSuffix.f stringslite_HasSuffix.f
  have h1 : (⟨#[c]⟩ : ByteArray).size = 1 := rfl
  rw [h1]
  by_cases h : s.size = 0
  · rw [if_neg (by omega)]
    have : chrs s = [] := List.eq_nil_of_length_eq_zero (by rw [chrs_length]; exact h)
    simp [this]
  · have hw : wrap64 ((s.size : Int) - ((1 : Nat) : Int)) = ((s.size - 1 : Nat) : Int) := by rw [w64 (by omega) (by omega)]; omega
    rw [if_pos (by omega), hw, if_pos (by omega), if_pos (by omega)]
    simp only [Option.bind_some, Int.toNat_natCast]
    have e : (((s.extract (s.size - 1) s.size).toList == (⟨#[c]⟩ : ByteArray).toList) = true) ↔ (chrs s)[s.size - 1]? = some c := by
      rw [beq_iff_eq, ByteArray.toList_eq, ByteArray.toList_eq]
      show chrs _ = [c] ↔ _
      rw [chrs_extract, List.take_of_length_le (by rw [chrs_length]; omega)]
      have hl : s.size - 1 < (chrs s).length := by rw [chrs_length]; omega
      rw [List.drop_eq_getElem_cons hl, List.drop_of_length_le (by rw [chrs_length]; omega), List.getElem?_eq_getElem hl]
      simp
    by_cases hc : (chrs s)[s.size - 1]? = some c
    · rw [if_pos (e.2 hc), if_pos (by omega), if_pos (by omega), if_pos hc]; rfl
    · rw [if_neg (fun h => hc (e.1 h)), if_neg hc]; rfl

theorem isigns_ev (s : ByteArray) (hs : s.size ≤ 70368744177664) : ∀ (d : Nat) (i : Nat) (acc : List Bool), i ≤ s.size → s.size - i = d → acc.length ≤ i →
    Ev (fun k => impl_signs.l0 k acc (bytesOf s) ((bytesOf s).length : Int) i) (match bitsL ((chrs s).drop i) with | some l => (acc ++ l, decide ((acc ++ l).length ≤ 60)) | none => ([], false)) := by
  intro d
  induction d with
  | zero =>
    intro i acc hi hd ha
    refine Ev.step (f := fun k => some (acc, decide ((acc.length : Int) ≤ 60))) (fun k => ?_) ?_
    · simp only [impl_signs.l0, bytesOf_length]; rw [if_neg (by omega)]
    · have : (chrs s).drop i = [] := by rw [List.drop_eq_nil_iff, chrs_length]; omega
      rw [this]; simp only [bitsL, List.append_nil]
      have e : decide ((acc.length : Int) ≤ 60) = decide (acc.length ≤ 60) := by apply decide_eq_decide.2; omega
      rw [e]; exact Ev.now _
  | succ d ih =>
    intro i acc hi hd ha
    have hlt : i < s.size := by omega
    have hl : i < (chrs s).length := by rw [chrs_length]; exact hlt
    have hdrop : (chrs s).drop i = (chrs s)[i] :: (chrs s).drop (i + 1) := List.drop_eq_getElem_cons hl
    have hw : wrap64 ((i : Int) + 1) = ((i + 1 : Nat) : Int) := by rw [w64 (by omega) (by omega)]; omega
    have hb := bt_chr s hlt
    rw [hdrop]
    by_cases c0 : (chrs s)[i] = 48
    · have e : bt s (i : Int) = 48 := by rw [hb, c0]; rfl
      refine Ev.step (f := fun k => impl_signs.l0 k (acc ++ [false]) (bytesOf s) ((bytesOf s).length : Int) ((i + 1 : Nat) : Int)) (fun k => ?_) ?_
      · simp only [impl_signs.l0, bytesOf_length, rd_bytesOf]; rw [if_pos (by omega), if_pos (by omega), if_pos (by omega), if_pos e, if_pos (by omega), hw, e]; rfl
      · have := ih (i + 1) (acc ++ [false]) (by omega) (by omega) (by simp; omega)
        simp only [bitsL, if_pos c0]
        cases h : bitsL ((chrs s).drop (i + 1)) with
        | none => rw [h] at this; exact this
        | some l => rw [h] at this; simpa using this
    · by_cases c1 : (chrs s)[i] = 49
      · have e : bt s (i : Int) = 49 := by rw [hb, c1]; rfl
        refine Ev.step (f := fun k => impl_signs.l0 k (acc ++ [true]) (bytesOf s) ((bytesOf s).length : Int) ((i + 1 : Nat) : Int)) (fun k => ?_) ?_
        · simp only [impl_signs.l0, bytesOf_length, rd_bytesOf]; rw [if_pos (by omega), if_pos (by omega), if_pos (by omega), if_neg (by omega), if_pos e, if_pos (by omega), hw]
        · have := ih (i + 1) (acc ++ [true]) (by omega) (by omega) (by simp; omega)
          simp only [bitsL, if_neg c0, if_pos c1]
          cases h : bitsL ((chrs s).drop (i + 1)) with
          | none => rw [h] at this; exact this
          | some l => rw [h] at this; simpa using this
      · refine Ev.step (f := fun k => some (([] : List Bool), false)) (fun k => ?_) ?_
        · have e0 : ¬ bt s (i : Int) = 48 := by rw [hb]; intro h; exact c0 ((u8_eq (n := 48) (by omega)).1 h)
          have e1 : ¬ bt s (i : Int) = 49 := by rw [hb]; intro h; exact c1 ((u8_eq (n := 49) (by omega)).1 h)
          simp only [impl_signs.l0, bytesOf_length, rd_bytesOf]; rw [if_pos (by omega), if_pos (by omega), if_pos (by omega), if_neg e0, if_neg e1]
        · simp only [bitsL, if_neg c0, if_neg c1]; exact Ev.now _

/-- What impl.signs answers. -/
def sgns (s : List UInt8) : List Bool × Bool := match bitsL s with | some l => (l, decide (l.length ≤ 60)) | none => ([], false)
theorem isigns_f (s : ByteArray) (hs : s.size ≤ 70368744177664) : Ev (fun k => impl_signs.f k s) (sgns (chrs s)) := by
  have := isigns_ev s hs s.size 0 [] (by omega) (by omega) (by simp)
  unfold sgns
  refine Ev.congr (fun k => ?_) (by simpa using this)
  unfold impl_signs.f bytesConv.f; rw [if_pos hs]; simp only [Option.bind_some, bytesOf_length]

/-- What impl.setOf answers, out of its parts. -/
def setFin (o e : Bool) (X Y : List Bool × Bool) : List Bool × List Bool × Bool := (X.1, Y.1, o && e && X.2 && Y.2 && decide (0 < Y.1.length))
theorem setOf_ev (s A R B : ByteArray) (o e : Bool) (h1 : strings_Cut.f s ⟨#[40]⟩ = some (A, R, o)) (h2 : strings_CutSuffix.f R ⟨#[41]⟩ = some (B, e)) (hA : A.size ≤ 70368744177664) (hB : B.size ≤ 70368744177664) :
    Ev (fun k => impl_setOf.f k s) (setFin o e (sgns (chrs A)) (sgns (chrs B))) := by
  refine Ev.congr (f := fun k => (impl_signs.f k A).bind fun X => (impl_signs.f k B).bind fun Y => some (setFin o e X Y)) (fun k => ?_) (Ev.bind (isigns_f A hA) (Ev.bind (isigns_f B hB) (Ev.now _)))
  unfold impl_setOf.f
  rw [h1]
  simp only [Option.bind_some]
  rw [h2]
  simp only [Option.bind_some]
  congr 1; funext X; congr 1; funext Y
  unfold setFin
  have ed : decide ((Y.1.length : Int) > 0) = decide (0 < Y.1.length) := by apply decide_eq_decide.2; omega
  rw [ed]
  cases o <;> cases e <;> rcases X with ⟨x, _ | _⟩ <;> rcases Y with ⟨y, _ | _⟩ <;> simp

theorem setOf_f (s : ByteArray) (hs : s.size ≤ 70368744177664) : ∃ x y, Ev (fun k => impl_setOf.f k s) (x, y, (parse (chrs s)).isSome) ∧ ∀ a b, parse (chrs s) = some (a, b) → x = a ∧ y = b := by
  have hp := (chrs s).findIdx_le_length (p := (· == 40))
  rw [chrs_length] at hp
  have h1 := cut_f s 40 hs
  -- out of the parts
  have fin : ∀ A R B o e, strings_Cut.f s ⟨#[40]⟩ = some (A, R, o) → strings_CutSuffix.f R ⟨#[41]⟩ = some (B, e) → A.size ≤ s.size → B.size ≤ s.size → (setFin o e (sgns (chrs A)) (sgns (chrs B))).2.2 = (parse (chrs s)).isSome → (∀ a b, parse (chrs s) = some (a, b) → (sgns (chrs A)).1 = a ∧ (sgns (chrs B)).1 = b) →
      ∃ x y, Ev (fun k => impl_setOf.f k s) (x, y, (parse (chrs s)).isSome) ∧ ∀ a b, parse (chrs s) = some (a, b) → x = a ∧ y = b := fun A R B o e g1 g2 g3 g4 g5 g6 => by
    have := setOf_ev s A R B o e g1 g2 (by omega) (by omega)
    refine ⟨(sgns (chrs A)).1, (sgns (chrs B)).1, ?_, g6⟩
    rw [← g5]; exact this
  by_cases h : (chrs s).findIdx (· == 40) < s.size
  · rw [if_pos h] at h1
    have hsz : (s.extract ((chrs s).findIdx (· == 40) + 1) s.size).size = s.size - ((chrs s).findIdx (· == 40) + 1) := by simp
    have h2 := suffix_f (s.extract ((chrs s).findIdx (· == 40) + 1) s.size) 41 (by omega)
    have he : (chrs (s.extract ((chrs s).findIdx (· == 40) + 1) s.size))[(s.extract ((chrs s).findIdx (· == 40) + 1) s.size).size - 1]? = if (chrs s).findIdx (· == 40) + 1 < s.size then (chrs s)[s.size - 1]? else none := by
      rw [chrs_extract, List.take_of_length_le (by rw [chrs_length]; omega), hsz, List.getElem?_drop]
      split
      · congr 1; omega
      · exact List.getElem?_eq_none (by rw [chrs_length]; omega)
    rw [he] at h2
    have hP : parse (chrs s) = if (chrs s).findIdx (· == 40) + 2 < s.size ∧ (chrs s)[s.size - 1]? = some 41 then
        match bitsL ((chrs s).take ((chrs s).findIdx (· == 40))), bitsL (((chrs s).take (s.size - 1)).drop ((chrs s).findIdx (· == 40) + 1)) with
        | some a, some b => if a.length ≤ 60 ∧ b.length ≤ 60 then some (a, b) else none
        | _, _ => none else none := by unfold parse; rw [chrs_length] <;> rfl
    have hc1 : chrs (s.extract 0 ((chrs s).findIdx (· == 40))) = (chrs s).take ((chrs s).findIdx (· == 40)) := by rw [chrs_extract, List.drop_zero]
    have hA : (s.extract 0 ((chrs s).findIdx (· == 40))).size ≤ s.size := by simp; omega
    generalize hq : (chrs s).findIdx (· == 40) = p at *
    by_cases h3 : (if p + 1 < s.size then (chrs s)[s.size - 1]? else none) = some 41
    · rw [if_pos h3] at h2
      have h4 : p + 1 < s.size := by
        refine Classical.byContradiction fun hn => ?_
        rw [if_neg hn] at h3; cases h3
      rw [if_pos h4] at h3
      have hc2 : chrs ((s.extract (p + 1) s.size).extract 0 ((s.extract (p + 1) s.size).size - 1)) = ((chrs s).take (s.size - 1)).drop (p + 1) := by
        rw [chrs_extract, chrs_extract, List.drop_zero, show (chrs s).take s.size = chrs s from List.take_of_length_le (by rw [chrs_length]; omega), hsz, List.drop_take]
        congr 1; omega
      have hl2 : (((chrs s).take (s.size - 1)).drop (p + 1)).length = s.size - 1 - (p + 1) := by rw [List.length_drop, List.length_take, chrs_length]; omega
      have hP2 : parse (chrs s) = match bitsL ((chrs s).take p), bitsL (((chrs s).take (s.size - 1)).drop (p + 1)) with
          | some a, some b => if p + 2 < s.size ∧ (a.length ≤ 60 ∧ b.length ≤ 60) then some (a, b) else none
          | _, _ => none := by
        rw [hP]
        by_cases h5 : p + 2 < s.size
        · rw [if_pos ⟨h5, h3⟩]
          split <;> simp_all
        · rw [if_neg (by rintro ⟨x, _⟩; exact h5 x)]
          split
          · rw [if_neg (by rintro ⟨x, _⟩; exact h5 x)]
          · rfl
      refine fin _ _ _ _ _ h1 h2 hA (by simp; omega) ?_ ?_
      · rw [hc1, hc2, hP2]
        unfold setFin sgns
        cases b1 : bitsL ((chrs s).take p) with
        | none => simp
        | some a =>
          cases b2 : bitsL (((chrs s).take (s.size - 1)).drop (p + 1)) with
          | none => simp
          | some b =>
            have hbl := bitsL_length b2
            rw [hl2] at hbl
            have hb0 : decide (0 < b.length) = decide (p + 2 < s.size) := by apply decide_eq_decide.2; omega
            simp only [hb0]
            by_cases la : a.length ≤ 60 <;> by_cases lb : b.length ≤ 60 <;> by_cases h5 : p + 2 < s.size <;> simp [la, lb, h5]
      · rw [hc1, hc2, hP2]
        unfold sgns
        intro a' b' hab
        cases b1 : bitsL ((chrs s).take p) with
        | none => rw [b1] at hab; cases hab
        | some a =>
          cases b2 : bitsL (((chrs s).take (s.size - 1)).drop (p + 1)) with
          | none => rw [b1, b2] at hab; cases hab
          | some b =>
            rw [b1, b2] at hab
            simp only at hab
            split at hab
            · simp only [Option.some.injEq, Prod.mk.injEq] at hab; exact hab
            · cases hab
    · rw [if_neg h3] at h2
      have hPn : parse (chrs s) = none := by
        rw [hP, if_neg]
        rintro ⟨x, y⟩
        exact h3 (by rw [if_pos (by omega)]; exact y)
      refine fin _ _ _ _ _ h1 h2 hA (by simp) ?_ ?_
      · rw [hPn]; simp [setFin]
      · intro a b hab; rw [hPn] at hab; cases hab
  · rw [if_neg h] at h1
    have hPn : parse (chrs s) = none := by
      unfold parse; rw [chrs_length, if_neg]; rintro ⟨x, _⟩; omega
    have h2 := suffix_f (⟨#[]⟩ : ByteArray) 41 (by decide)
    rw [if_neg (by rw [byteArray_empty_chrs]; simp)] at h2
    refine fin _ _ _ _ _ h1 h2 (Nat.le_refl _) (by show 0 ≤ _; omega) ?_ ?_
    · rw [hPn]; simp [setFin]
    · intro a b hab; rw [hPn] at hab; cases hab

end Go.Proofs.Ytahbpbjgkmcedaa.P

-- impl.turns and tidy come to the tidy form.
namespace Go.Proofs.Ytahbpbjgkmcedaa.P
open Go.RowKit Go.Proofs.YtahbpbjgkmcedaaW.PrintWords Go.Proofs.YtahbpbjgkmcedaaW.PrintLast Go.Proofs.YtahbpbjgkmcedaaW.PrintMore
set_option linter.unusedVariables false
set_option linter.unusedSimpArgs false
theorem turns_l0 (r : List Bool) (d : Nat) (hd : 0 < d) (hdl : d ≤ r.length) (hl : r.length ≤ 70368744177664) : ∀ (m i : Nat), i ≤ r.length → r.length - i = m →
    (∀ j, j < i → r.getD j false = r.getD (j % d) false) → ∃ b, Ev (fun k => impl_turns.l0 k r d r.length i) b ∧ (b = true ↔ IsPer r d) := by
  intro m
  induction m with
  | zero =>
    intro i h1 h2 h3
    have e : i = r.length := by omega
    refine ⟨((r.length : Int) % (d : Int)) == 0, Ev.step (f := fun k => some (((r.length : Int) % (d : Int)) == 0)) (fun k => ?_) (Ev.now _), ?_⟩
    · simp only [impl_turns.l0]; rw [if_neg (by omega), if_neg (by omega)]
    · have hm : (r.length : Int) % (d : Int) = ((r.length % d : Nat) : Int) := rfl
      rw [beq_iff_eq, hm]
      constructor
      · intro h; exact IsPer.of_mod (by omega) hd (fun j hj => h3 j (by omega))
      · intro h; have := h.1; omega
  | succ m ih =>
    intro i h1 h2 h3
    have hmod : Int.tmod (i : Int) (d : Int) = ((i % d : Nat) : Int) := by rw [Int.tmod_eq_emod_of_nonneg (by omega)]; rfl
    have hml := Nat.mod_lt i hd
    have hw : wrap64 ((i : Int) + 1) = ((i + 1 : Nat) : Int) := by rw [w64 (by omega) (by omega)]; omega
    by_cases he : r.getD i false = r.getD (i % d) false
    · obtain ⟨b, hb, hbi⟩ := ih (i + 1) (by omega) (by omega) (fun j hj => by
        rcases Nat.lt_or_ge j i with h | h
        · exact h3 j h
        · have : j = i := by omega
          subst this; exact he)
      refine ⟨b, Ev.step (fun k => ?_) hb, hbi⟩
      simp only [impl_turns.l0]
      rw [if_pos (by omega), if_pos (by omega), if_pos (by omega), if_neg (by omega), hmod, if_pos (by omega), if_pos (by omega), rdOf_nat, rdOf_nat, if_neg (by rw [he]; simp), hw]
    · refine ⟨false, Ev.step (f := fun k => some false) (fun k => ?_) (Ev.now _), ?_⟩
      · simp only [impl_turns.l0]
        rw [if_pos (by omega), if_pos (by omega), if_pos (by omega), if_neg (by omega), hmod, if_pos (by omega), if_pos (by omega), rdOf_nat, rdOf_nat, if_pos (by rw [bne_iff_ne]; exact he)]
      · constructor
        · intro h; exact absurd h (by decide)
        · intro h; exact absurd (h.mod hd i (by omega)) he
theorem turns_f (r : List Bool) (d : Nat) (hd : 0 < d) (hdl : d ≤ r.length) (hl : r.length ≤ 70368744177664) : ∃ b, Ev (fun k => impl_turns.f k r d) b ∧ (b = true ↔ IsPer r d) := by
  obtain ⟨b, h, hb⟩ := turns_l0 r d hd hdl hl _ 0 (by omega) rfl (fun j hj => by omega)
  exact ⟨b, by simpa [impl_turns.f] using h, hb⟩
theorem clone_f (l : List Bool) (h : l.length ≤ 70368744177664) : slices_Clone_bool_bool.f l = some l := by unfold slices_Clone_bool_bool.f; rw [if_pos h]

theorem tidy_l1 : ∀ (n : Nat) (t r : List Bool), t.length = n → Prim r → t.length + r.length ≤ 70368744177664 → ∃ t' r', Ev (fun k => impl_set_tidy.l1 k r.length t r) (t', r') ∧ Tidy t r t' r' := by
  intro n
  induction n with
  | zero =>
    intro t r hn hp hl
    have ht : t = [] := List.eq_nil_of_length_eq_zero hn
    subst ht
    refine ⟨[], r, Ev.step (f := fun k => some (([] : List Bool), r)) (fun k => ?_) (Ev.now _), ⟨hp, .inl rfl⟩, fun _ => rfl, Nat.le_refl _, Nat.le_refl _⟩
    simp only [impl_set_tidy.l1]; rw [if_neg (by simp)]
  | succ n ih =>
    intro t r hn hp hl
    have hr := hp.1
    have hpos := List.length_pos_iff.2 hr
    have ht : t ≠ [] := by intro e; rw [e] at hn; simp at hn
    have w1 : wrap64 ((t.length : Int) - 1) = ((t.length - 1 : Nat) : Int) := by rw [w64 (by omega) (by omega)]; omega
    have w2 : wrap64 ((r.length : Int) - 1) = ((r.length - 1 : Nat) : Int) := by rw [w64 (by omega) (by omega)]; omega
    by_cases he : t.getD (t.length - 1) false = r.getD (r.length - 1) false
    · obtain ⟨t', r', hev, htd⟩ := ih (t.take (t.length - 1)) (rotR r) (by rw [List.length_take]; omega) (prim_rot hp) (by rw [rotR_length hr, List.length_take]; omega)
      rw [rotR_length hr] at hev
      refine ⟨t', r', Ev.step (fun k => ?_) hev, htd.canon, fun x => by rw [htd.has, rot_has ht hr he], by have := htd.tl; rw [List.length_take] at this; omega, by have := htd.rl; rw [rotR_length hr] at this; omega⟩
      simp only [impl_set_tidy.l1]
      rw [if_pos (by omega), w1, w2, if_pos (by omega), if_pos (by omega), if_pos (by omega), if_pos (by omega), rdOf_nat, rdOf_nat, if_pos (by rw [he]; exact beq_self_eq_true _), if_pos (by omega)]
      simp only [Option.bind_some]
      rw [if_pos (by omega)]
      simp only [Int.toNat_natCast]
      rw [if_pos (by simp; omega)]
      rfl
    · refine ⟨t, r, Ev.step (f := fun k => some (t, r)) (fun k => ?_) (Ev.now _), ⟨hp, .inr he⟩, fun _ => rfl, Nat.le_refl _, Nat.le_refl _⟩
      simp only [impl_set_tidy.l1]
      rw [if_pos (by omega), w1, w2, if_pos (by omega), if_pos (by omega), if_pos (by omega), if_pos (by omega), rdOf_nat, rdOf_nat, if_neg (by rw [beq_iff_eq]; exact he)]

theorem tidy_l0 (t r : List Bool) (hr : r ≠ []) (hl : t.length + r.length ≤ 70368744177664) : ∀ (m d : Nat), 0 < d → d ≤ r.length → r.length - d = m → (∀ d', 0 < d' → d' < d → ¬ IsPer r d') →
    ∃ t' r', Ev (fun k => impl_set_tidy.l0 k d t r) (t', r') ∧ Tidy t r t' r' := by
  have hpos := List.length_pos_iff.2 hr
  have hn : IsPer r r.length := ⟨Nat.mod_self _, fun i a b => by omega⟩
  intro m
  induction m with
  | zero =>
    intro d h0 h1 h2 h3
    have e : d = r.length := by omega
    obtain ⟨b, hb, hbi⟩ := turns_f r d h0 h1 (by omega)
    have hbt : b = true := hbi.2 (by rw [e]; exact hn)
    have hp : IsPer r d := hbi.1 hbt
    subst hbt
    have hlt : (r.take d).length = d := by rw [List.length_take]; omega
    obtain ⟨t', r', hev, htd⟩ := tidy_l1 _ t (r.take d) rfl (prim_take h0 h1 hp h3) (by omega)
    rw [hlt] at hev
    refine ⟨t', r', Ev.step (f := fun k => (impl_turns.f k r d).bind fun t161 => (if t161 = true then impl_set_tidy.l1 k d t (r.take d) else (impl_set_tidy.l0 k (wrap64 (d + 1)) t r))) (fun k => ?_) (Ev.bind hb (by simpa using hev)), htd.canon, fun x => by rw [htd.has, take_has hp h0 h1], htd.tl, by have := htd.rl; omega⟩
    simp only [impl_set_tidy.l0]
    congr 1; funext x
    rw [clone_f _ (by omega)]
    simp only [Option.bind_some, Int.toNat_natCast]
    cases x with
    | true => rw [if_pos rfl, if_pos rfl, if_pos (by omega), if_pos (by omega), clone_f _ (by rw [hlt]; omega)]; rfl
    | false => rw [if_neg (by decide), if_neg (by decide)]
  | succ m ih =>
    intro d h0 h1 h2 h3
    obtain ⟨b, hb, hbi⟩ := turns_f r d h0 h1 (by omega)
    have hw : wrap64 ((d : Int) + 1) = ((d + 1 : Nat) : Int) := by rw [w64 (by omega) (by omega)]; omega
    have hlt : (r.take d).length = d := by rw [List.length_take]; omega
    have st : ∀ k, impl_set_tidy.l0 (k + 1) d t r = (impl_turns.f k r d).bind fun t161 => (if t161 = true then impl_set_tidy.l1 k d t (r.take d) else (impl_set_tidy.l0 k ((d + 1 : Nat) : Int) t r)) := fun k => by
      simp only [impl_set_tidy.l0]
      congr 1; funext x
      rw [clone_f _ (by omega)]
      simp only [Option.bind_some, Int.toNat_natCast]
      cases x with
      | true => rw [if_pos rfl, if_pos rfl, if_pos (by omega), if_pos (by omega), clone_f _ (by rw [hlt]; omega)]; rfl
      | false => rw [if_neg (by decide), if_neg (by decide), hw]
    by_cases hp : IsPer r d
    · have hbt := hbi.2 hp
      subst hbt
      obtain ⟨t', r', hev, htd⟩ := tidy_l1 _ t (r.take d) rfl (prim_take h0 h1 hp h3) (by omega)
      rw [hlt] at hev
      exact ⟨t', r', Ev.step st (Ev.bind hb (by simpa using hev)), htd.canon, fun x => by rw [htd.has, take_has hp h0 h1], htd.tl, by have := htd.rl; omega⟩
    · have hbt : b = false := by cases b; rfl; exact absurd (hbi.1 rfl) hp
      subst hbt
      obtain ⟨t', r', hev, htd⟩ := ih (d + 1) (by omega) (by omega) (by omega) (fun d' a b => by
            rcases Nat.lt_or_ge d' d with h | h
            · exact h3 d' a h
            · have : d' = d := by omega
              subst this; exact hp)
      exact ⟨t', r', Ev.step st (Ev.bind hb (by simpa using hev)), htd⟩
theorem tidy_f (t r : List Bool) (hr : r ≠ []) (hl : t.length + r.length ≤ 70368744177664) : ∃ t' r', Ev (fun k => impl_set_tidy.f k t r) (t', r') ∧ Tidy t r t' r' := by
  have hpos := List.length_pos_iff.2 hr
  obtain ⟨t', r', h, htd⟩ := tidy_l0 t r hr hl _ 1 (by omega) (by omega) rfl (fun d a b => by omega)
  exact ⟨t', r', by simpa [impl_set_tidy.f] using h, htd⟩

theorem tidy_cn (t r : List Bool) (hr : r ≠ []) (hl : t.length + r.length ≤ 70368744177664) : Ev (fun k => impl_set_tidy.f k t r) (cn (hasB t r)) := by
  obtain ⟨t', r', h, ht⟩ := tidy_f t r hr hl
  rw [ht.cn]; exact h

end Go.Proofs.Ytahbpbjgkmcedaa.P

-- impl.tidied reads and makes tidy.
namespace Go.Proofs.Ytahbpbjgkmcedaa.P
open Go.RowKit Go.Proofs.YtahbpbjgkmcedaaW.PrintWords Go.Proofs.YtahbpbjgkmcedaaW.PrintLast Go.Proofs.YtahbpbjgkmcedaaW.PrintMore
set_option linter.unusedVariables false
set_option linter.unusedSimpArgs false

/-- What impl.tidied answers. -/
noncomputable def tdd (s : List UInt8) : List Bool × List Bool × Bool := match parse s with | some (a, b) => ((cn (hasB a b)).1, (cn (hasB a b)).2, true) | none => ([], [], false)
theorem tidied_f (s : ByteArray) (hs : s.size ≤ 70368744177664) : Ev (fun k => impl_tidied.f k s) (tdd (chrs s)) := by
  obtain ⟨x, y, h, hp⟩ := setOf_f s hs
  unfold tdd
  cases h0 : parse (chrs s) with
  | none =>
    rw [h0] at h
    refine Ev.congr (f := fun k => (impl_setOf.f k s).bind fun bt186 => (if bt186.2.2 = true then ((impl_set_tidy.f k bt186.1 bt186.2.1).bind fun bt194 => (some (bt194.1, bt194.2, true))) else (some (([] : List Bool), ([] : List Bool), false)))) (fun k => rfl) (Ev.bind h (by simpa using Ev.now _))
  | some ab =>
    obtain ⟨a, b⟩ := ab
    obtain ⟨rfl, rfl⟩ := hp a b h0
    rw [h0] at h
    have hb := parse_some h0
    have ht := tidy_cn x y hb.2.2 (by omega)
    refine Ev.congr (f := fun k => (impl_setOf.f k s).bind fun bt186 => (if bt186.2.2 = true then ((impl_set_tidy.f k bt186.1 bt186.2.1).bind fun bt194 => (some (bt194.1, bt194.2, true))) else (some (([] : List Bool), ([] : List Bool), false)))) (fun k => rfl) (Ev.bind h ?_)
    simp only [Option.isSome_some, if_true]
    exact Ev.bind ht (Ev.now _)

end Go.Proofs.Ytahbpbjgkmcedaa.P

-- impl.RowsOf and spec.RowsOf.
namespace Go.Proofs.Ytahbpbjgkmcedaa.P
open Go.RowKit Go.Proofs.YtahbpbjgkmcedaaW.PrintWords Go.Proofs.YtahbpbjgkmcedaaW.PrintLast Go.Proofs.YtahbpbjgkmcedaaW.PrintMore
set_option linter.unusedVariables false
set_option linter.unusedSimpArgs false

/-- Whether a list is a row. -/
def okr (r : List Int) : Bool := decide ((r.length : Int) = 2) && (decide (0 ≤ rd r 0 ∧ rd r 0 ≤ 59) && decide (0 ≤ rd r 1 ∧ rd r 1 ≤ 60))
/-- Whether a list is a list of rows. -/
def okrs (L : List (List Int)) : Bool := L.all okr && decide ((L.length : Int) ≤ 20)
theorem rdL2_nat (L : List (List Int)) {i : Nat} (h : i < L.length) : rd_L2 L (i : Int) = L[i] := by simp [rd_L2, List.getD_eq_getElem?_getD, h]
theorem irows_l0 (L : List (List Int)) (hL : L.length ≤ 1000000) : ∀ (d i : Nat) (acc : List S60), i ≤ L.length → L.length - i = d → acc.length = i →
    ∃ out, Ev (fun k => impl_rowsOf.l0 k acc L (L.length : Int) i) (out, (L.drop i).all okr && decide ((L.length : Int) ≤ 20)) := by
  intro d
  induction d with
  | zero =>
    intro i acc hi hd ha
    refine ⟨acc, Ev.step (f := fun k => some (acc, decide ((acc.length : Int) ≤ 20))) (fun k => ?_) ?_⟩
    · simp only [impl_rowsOf.l0]; rw [if_neg (by omega)]
    · rw [ha, show i = L.length by omega, List.drop_length, List.all_nil, Bool.true_and]; exact Ev.now _
  | succ d ih =>
    intro i acc hi hd ha
    have hlt : i < L.length := by omega
    have hdr := List.drop_eq_getElem_cons hlt
    obtain ⟨out, hih⟩ := ih (i + 1) (acc ++ [⟨rd L[i] 0, rd L[i] 1⟩]) (by omega) (by omega) (by simp [ha])
    rw [hdr, List.all_cons]
    unfold okr
    by_cases h1 : (L[i].length : Int) = 2
    · by_cases h2 : 0 ≤ rd L[i] 0 ∧ rd L[i] 0 ≤ 59
      · by_cases h3 : 0 ≤ rd L[i] 1 ∧ rd L[i] 1 ≤ 60
        · refine ⟨out, Ev.step (fun k => ?_) (by rw [decide_eq_true h1, decide_eq_true h2, decide_eq_true h3]; exact hih)⟩
          simp only [impl_rowsOf.l0, rdL2_nat L hlt, in_f, decide_eq_true h2, decide_eq_true h3, Option.bind_some]
          rw [if_pos (by omega), if_pos (by omega), if_pos (by omega), if_pos h1, if_pos (by omega), if_pos (by trivial), if_pos (by omega), if_pos (by trivial), if_pos (by omega), wsucc (by omega)]
        · refine ⟨[], Ev.step (f := fun k => some ([], false)) (fun k => ?_) (by rw [decide_eq_true h1, decide_eq_true h2, decide_eq_false h3]; exact Ev.now _)⟩
          simp only [impl_rowsOf.l0, rdL2_nat L hlt, in_f, decide_eq_true h2, decide_eq_false h3, Option.bind_some]
          rw [if_pos (by omega), if_pos (by omega), if_pos (by omega), if_pos h1, if_pos (by omega), if_pos (by trivial), if_pos (by omega), if_neg (by decide)]
      · refine ⟨[], Ev.step (f := fun k => some ([], false)) (fun k => ?_) (by rw [decide_eq_true h1, decide_eq_false h2]; exact Ev.now _)⟩
        simp only [impl_rowsOf.l0, rdL2_nat L hlt, in_f, decide_eq_false h2, Option.bind_some]
        rw [if_pos (by omega), if_pos (by omega), if_pos (by omega), if_pos h1, if_pos (by omega), if_neg (by decide)]
    · refine ⟨[], Ev.step (f := fun k => some ([], false)) (fun k => ?_) (by rw [decide_eq_false h1]; exact Ev.now _)⟩
      simp only [impl_rowsOf.l0, rdL2_nat L hlt]
      rw [if_pos (by omega), if_pos (by omega), if_pos (by omega), if_neg h1]
theorem irowsIn_f (L : List (List Int)) (hL : L.length ≤ 1000000) : Ev (fun k => impl_RowsIn.f k L) (okrs L) := by
  obtain ⟨out, h⟩ := irows_l0 L hL L.length 0 [] (Nat.zero_le _) rfl rfl
  refine Ev.congr (fun k => rfl) (Ev.bind h ?_)
  exact Ev.now _
theorem srow_f (r : List Int) : spec_l3Row.f r = some (okr r) := by
  unfold spec_l3Row.f okr
  by_cases h1 : (r.length : Int) = 2
  · by_cases h2 : 0 ≤ rd r 0 ∧ rd r 0 ≤ 59
    · rw [if_pos h1, if_pos (by omega), l6in_f, l6in_f, decide_eq_true h1, decide_eq_true h2, Option.bind_some, if_pos (by trivial), if_pos (by omega), Option.bind_some, Bool.true_and, Bool.true_and]
    · rw [if_pos h1, if_pos (by omega), l6in_f, decide_eq_true h1, decide_eq_false h2, Option.bind_some, if_neg (by decide)]; rfl
  · rw [if_neg h1, decide_eq_false h1]; rfl
theorem srows_l0 (L : List (List Int)) (hL : L.length ≤ 1000000) : ∀ (d i : Nat), i ≤ L.length → L.length - i = d →
    Ev (fun k => spec_l3Rows.l0 k L i) ((L.drop i).all okr && decide ((L.length : Int) ≤ 20)) := by
  intro d
  induction d with
  | zero =>
    intro i hi hd
    refine Ev.step (f := fun k => some (decide ((L.length : Int) ≤ 20))) (fun k => ?_) ?_
    · simp only [spec_l3Rows.l0]; rw [if_neg (by omega)]
    · rw [show i = L.length by omega, List.drop_length, List.all_nil, Bool.true_and]; exact Ev.now _
  | succ d ih =>
    intro i hi hd
    have hlt : i < L.length := by omega
    have hdr := List.drop_eq_getElem_cons hlt
    have hih := ih (i + 1) (by omega) (by omega)
    rw [hdr, List.all_cons]
    cases ho : okr L[i] with
    | true =>
      refine Ev.step (fun k => ?_) hih
      simp only [spec_l3Rows.l0, rdL2_nat L hlt, srow_f, ho, Option.bind_some]
      rw [if_pos (by omega), if_pos (by omega), if_pos (by trivial), wsucc (by omega)]
    | false =>
      refine Ev.step (f := fun k => some false) (fun k => ?_) (Ev.now _)
      simp only [spec_l3Rows.l0, rdL2_nat L hlt, srow_f, ho, Option.bind_some]
      rw [if_pos (by omega), if_pos (by omega), if_neg (by decide)]
theorem srows_f (L : List (List Int)) (hL : L.length ≤ 1000000) : Ev (fun k => spec_l3Rows.f k L) (okrs L) := srows_l0 L hL L.length 0 (Nat.zero_le _) rfl

/-- The row of a number. -/
def rwo (m p : Nat) (n : Int) : List Int := [n, if n < (m : Int) then 0 else (p : Int)]
/-- What RowsOf makes of rows. -/
def rwe (L : List (List Int)) : List (List Int) × Bool := if okrs L = true then (L, true) else ([], false)
/-- The rows of a tidy set. -/
def rwl (a b : List Bool) : List (List Int) := (blw (hasB a b) (a.length + b.length)).map (rwo a.length b.length)
theorem irowsOf_l0 (a b : List Bool) (X : List Int) (hX : X.length ≤ 1000) : ∀ (d i : Nat), i ≤ X.length → X.length - i = d →
    Ev (fun k => impl_RowsOf.l0 k ((X.take i).map (rwo a.length b.length)) X (X.length : Int) i a b) (rwe (X.map (rwo a.length b.length))) := by
  intro d
  induction d with
  | zero =>
    intro i hi hd
    have e : X.take i = X := List.take_of_length_le (by omega)
    rw [e]
    have h := irowsIn_f (X.map (rwo a.length b.length)) (by rw [List.length_map]; omega)
    refine Ev.step (f := fun k => (impl_RowsIn.f k (X.map (rwo a.length b.length))).bind fun t => if t = true then some (X.map (rwo a.length b.length), true) else some ([], false)) (fun k => ?_) (Ev.bind h ?_)
    · simp only [impl_RowsOf.l0]; rw [if_neg (by omega)]
    · unfold rwe
      split <;> exact Ev.now _
  | succ d ih =>
    intro i hi hd
    have hlt : i < X.length := by omega
    have hih := ih (i + 1) (by omega) (by omega)
    rw [List.take_succ_eq_append_getElem hlt, List.map_append] at hih
    have hl : ((X.take i).map (rwo a.length b.length)).length < 5864062014805 := by rw [List.length_map, List.length_take]; omega
    by_cases hc : X[i] ≥ (a.length : Int)
    · refine Ev.step (fun k => ?_) hih
      simp only [impl_RowsOf.l0]
      rw [if_pos (by omega), if_pos (by omega), if_pos (by omega), rd_nat X hlt, if_pos hc, if_pos hl, wsucc (by omega), List.map_cons, List.map_nil]
      rw [show rwo a.length b.length X[i] = [X[i], (b.length : Int)] by unfold rwo; rw [if_neg (by omega)]]
    · refine Ev.step (fun k => ?_) hih
      simp only [impl_RowsOf.l0]
      rw [if_pos (by omega), if_pos (by omega), if_pos (by omega), rd_nat X hlt, if_neg hc, if_pos hl, wsucc (by omega), List.map_cons, List.map_nil]
      rw [show rwo a.length b.length X[i] = [X[i], 0] by unfold rwo; rw [if_pos (by omega)]]
/-- What RowsOf answers. -/
noncomputable def rwr (s : List UInt8) : List (List Int) × Bool := if (tdd s).2.2 = true then rwe (rwl (tdd s).1 (tdd s).2.1) else ([], false)
theorem tdd_ok {s : List UInt8} (h : (tdd s).2.2 = true) : (tdd s).2.1 ≠ [] ∧ (tdd s).1.length ≤ 60 ∧ (tdd s).2.1.length ≤ 60 := by
  unfold tdd at *
  cases h0 : parse s with
  | none => rw [h0] at h; cases h
  | some ab =>
    obtain ⟨a, b⟩ := ab
    have hb := parse_some h0
    have ht := cn_tidy (t := a) hb.2.2
    have h1 := ht.tl
    have h2 := ht.rl
    exact ⟨List.length_pos_iff.1 ht.pos, by show (cn (hasB a b)).1.length ≤ 60; omega, by show (cn (hasB a b)).2.length ≤ 60; omega⟩
theorem irowsOf_f (s : ByteArray) (hs : s.size ≤ 70368744177664) : Ev (fun k => impl_RowsOf.f k s) (rwr (chrs s)) := by
  refine Ev.congr (fun k => rfl) (Ev.bind (tidied_f s hs) ?_)
  unfold rwr
  cases h : (tdd (chrs s)).2.2 with
  | false => rw [if_neg (by decide)]; exact Ev.now _
  | true =>
    obtain ⟨h1, h2, h3⟩ := tdd_ok h
    rw [if_pos (by trivial)]
    generalize (tdd (chrs s)).1 = a at *
    generalize (tdd (chrs s)).2.1 = b at *
    have hb := iblw_f a b h1 (by omega) (a.length + b.length) (by omega)
    have hl := blw_length (hasB a b) (a.length + b.length)
    have hq : Ev (fun k => impl_RowsOf.l0 k [] (blw (hasB a b) (a.length + b.length)) ((blw (hasB a b) (a.length + b.length)).length : Int) 0 a b) (rwe (rwl a b)) := irowsOf_l0 a b (blw (hasB a b) (a.length + b.length)) (by omega) _ 0 (Nat.zero_le _) rfl
    refine Ev.congr (f := fun k => (impl_set_below.f k a b ((a.length + b.length : Nat) : Int)).bind fun t317 => impl_RowsOf.l0 k [] t317 (t317.length : Int) 0 a b) (fun k => ?_) (Ev.bind hb hq)
    rw [if_pos (by trivial), wadd (by omega)]
theorem srowsOf_l0 (a b : List Bool) (hb : b ≠ []) (ha : a.length ≤ 60) (hbl : b.length ≤ 60) : ∀ (d i : Nat), i ≤ a.length + b.length → a.length + b.length - i = d →
    Ev (fun k => spec_RowsOf.l0 k ((blw (hasB a b) i).map (rwo a.length b.length)) (a.length : Int) i a b) (rwe (rwl a b)) := by
  intro d
  induction d with
  | zero =>
    intro i hi hd
    obtain rfl : i = a.length + b.length := by omega
    have hl := blw_length (hasB a b) (a.length + b.length)
    have h := srows_f (rwl a b) (by unfold rwl; rw [List.length_map]; omega)
    refine Ev.step (f := fun k => (spec_l3Rows.f k (rwl a b)).bind fun t => if t = true then some (rwl a b, true) else some ([], false)) (fun k => ?_) (Ev.bind h ?_)
    · simp only [spec_RowsOf.l0]; rw [wadd (by omega), if_neg (by omega)]; rfl
    · unfold rwe
      split <;> exact Ev.now _
  | succ d ih =>
    intro i hi hd
    have hih := ih (i + 1) (by omega) (by omega)
    have hl := blw_length (hasB a b) i
    have hl2 : ((blw (hasB a b) i).map (rwo a.length b.length)).length < 5864062014805 := by rw [List.length_map]; omega
    rw [blw_succ] at hih
    cases hh : hasB a b i with
    | false =>
      rw [hh, if_neg (by decide)] at hih
      refine Ev.step (fun k => ?_) hih
      simp only [spec_RowsOf.l0]
      rw [wadd (by omega), if_pos (by omega), shas_f a b hb (by omega) i (by omega), hh, Option.bind_some, if_neg (by decide), wsucc (by omega)]
    | true =>
      rw [hh, if_pos (by trivial), List.map_append] at hih
      by_cases hc : (i : Int) < (a.length : Int)
      · refine Ev.step (fun k => ?_) hih
        simp only [spec_RowsOf.l0]
        rw [wadd (by omega), if_pos (by omega), shas_f a b hb (by omega) i (by omega), hh, Option.bind_some, if_pos (by trivial), if_pos hc, if_pos hl2, wsucc (by omega), List.map_cons, List.map_nil]
        rw [show rwo a.length b.length (i : Int) = [(i : Int), 0] by unfold rwo; rw [if_pos hc]]
      · refine Ev.step (fun k => ?_) hih
        simp only [spec_RowsOf.l0]
        rw [wadd (by omega), if_pos (by omega), shas_f a b hb (by omega) i (by omega), hh, Option.bind_some, if_pos (by trivial), if_neg hc, if_pos hl2, wsucc (by omega), List.map_cons, List.map_nil]
        rw [show rwo a.length b.length (i : Int) = [(i : Int), (b.length : Int)] by unfold rwo; rw [if_neg hc]]
theorem srowsOf_f (s : ByteArray) (hs : s.size ≤ 70368744177664) : Ev (fun k => spec_RowsOf.f k s) (rwr (chrs s)) := by
  refine Ev.congr (f := fun k => (spec_l1Read.f k s).bind fun bt181 => (if bt181.2.2 = true then ((spec_l1Less.f k bt181.1 bt181.2.1).bind fun bt189 => (spec_RowsOf.l0 k [] (bt189.1.length : Int) 0 bt189.1 bt189.2)) else (some ([], false)))) (fun k => rfl) (Ev.bind (read_f s hs) ?_)
  unfold rwr tdd parsed
  cases h : parse (chrs s) with
  | none => exact Ev.now _
  | some ab =>
    obtain ⟨a, b⟩ := ab
    have hb := parse_some h
    have ht := cn_tidy (t := a) hb.2.2
    have h1 := ht.tl
    have h2 := ht.rl
    dsimp only
    rw [if_pos (by trivial)]
    have hpos := List.length_pos_iff.1 ht.pos
    simp only [if_true]
    refine Ev.bind (less_cn a b hb.2.2 (by show a.length + b.length ≤ _; omega)) ?_
    exact srowsOf_l0 _ _ hpos (by omega) (by omega) _ 0 (Nat.zero_le _) rfl
theorem rwr_small (s : List UInt8) : (rwr s).1.length ≤ 20 ∧ ∀ r ∈ (rwr s).1, r.length = 2 := by
  unfold rwr
  split
  · unfold rwe
    split
    · rename_i h
      unfold okrs at h
      rw [Bool.and_eq_true, decide_eq_true_iff, List.all_eq_true] at h
      refine ⟨by dsimp only; omega, fun r hr => ?_⟩
      have := h.1 r hr
      unfold okr at this
      rw [Bool.and_eq_true, decide_eq_true_iff] at this
      omega
    · exact ⟨by simp, fun r hr => by simp at hr⟩
  · exact ⟨by simp, fun r hr => by simp at hr⟩
end Go.Proofs.Ytahbpbjgkmcedaa.P

-- Rows that are marked are held.
namespace Go.Proofs.Ytahbpbjgkmcedaa.P
open Go.RowKit Go.Proofs.YtahbpbjgkmcedaaW.PrintWords Go.Proofs.YtahbpbjgkmcedaaW.PrintLast Go.Proofs.YtahbpbjgkmcedaaW.PrintMore
set_option linter.unusedVariables false
set_option linter.unusedSimpArgs false

theorem mkS_get (rows : List (List Int)) (m : Nat) : ∀ i j, j < rows.length → i ≤ rows.length → (mkS rows m i).1.getD j [] = if j < i then iota (mkS rows m j).2 (rows.getD j []).length else rows.getD j [] := by
  intro i
  induction i with
  | zero => intro j hj _; rw [if_neg (by omega)]; rfl
  | succ i ih =>
    intro j hj hi
    have hli := ih i (by omega) (by omega)
    rw [if_neg (by omega)] at hli
    show ((mkS rows m i).1.set i (iota (mkS rows m i).2 ((mkS rows m i).1.getD i []).length)).getD j [] = _
    rw [hli]
    by_cases e : j = i
    · subst e
      rw [if_pos (by omega), List.getD_eq_getElem?_getD, List.getElem?_set_self (by rw [mkS_length]; omega)]; rfl
    · rw [List.getD_eq_getElem?_getD, List.getElem?_set_ne (by omega), ← List.getD_eq_getElem?_getD, ih j hj (by omega)]
      by_cases h : j < i
      · rw [if_pos h, if_pos (by omega)]
      · rw [if_neg h, if_neg (by omega)]
theorem mkS_succ (rows : List (List Int)) (m i : Nat) (hi : i < rows.length) : (mkS rows m (i + 1)).2 = (mkS rows m i).2 + (rows.getD i []).length := by
  have := mkS_get rows m i i hi (by omega)
  rw [if_neg (by omega)] at this
  show (mkS rows m i).2 + ((mkS rows m i).1.getD i []).length = _
  rw [this]
theorem mkS_le (rows : List (List Int)) (m B : Nat) (hB : ∀ r ∈ rows, r.length ≤ B) : ∀ i, i ≤ rows.length → (mkS rows m i).2 ≤ m + i * B := by
  intro i
  induction i with
  | zero => intro _; show m ≤ _; omega
  | succ i ih =>
    intro hi
    have h := ih (by omega)
    rw [mkS_succ rows m i (by omega), Nat.succ_mul]
    have : (rows.getD i []).length ≤ B := hB _ (by rw [List.getD_eq_getElem?_getD, List.getElem?_eq_getElem (show i < rows.length by omega)]; exact List.getElem_mem _)
    omega
theorem eqSS_l0 (L : List (List Int)) (hL : L.length ≤ 1000000) (hl : ∀ r ∈ L, r.length ≤ 1000000) : ∀ (d i : Nat), i ≤ L.length → L.length - i = d → Ev (fun k => laws_eqIntSS.l0 k L L i) true := by
  intro d
  induction d with
  | zero =>
    intro i hi hd
    refine Ev.step (f := fun k => some true) (fun k => ?_) (Ev.now _)
    simp only [laws_eqIntSS.l0]; rw [if_neg (by omega)]
  | succ d ih =>
    intro i hi hd
    have hlt : i < L.length := by omega
    have hq := eqInts_f L[i] L[i] (by have := hl L[i] (List.getElem_mem hlt); omega)
    rw [decide_eq_true rfl] at hq
    refine Ev.step (f := fun k => (laws_eqIntS.f k L[i] L[i]).bind fun t => if t = true then laws_eqIntSS.l0 k L L ((i + 1 : Nat) : Int) else some false) (fun k => ?_) (Ev.bind hq ?_)
    · simp only [laws_eqIntSS.l0, rdL2_nat L hlt]
      rw [if_pos (by omega), if_pos (by omega), if_pos (by omega), wsucc (by omega)]
    · simp only [if_true]
      exact ih (i + 1) (by omega) (by omega)
theorem eqSS_f (L : List (List Int)) (hL : L.length ≤ 1000000) (hl : ∀ r ∈ L, r.length ≤ 1000000) : Ev (fun k => laws_eqIntSS.f k L L) true := by
  refine Ev.congr (fun k => ?_) (eqSS_l0 L hL hl L.length 0 (Nat.zero_le _) rfl)
  unfold laws_eqIntSS.f; rw [if_pos rfl]; rfl
theorem heldSS_l0 (rows : List (List Int)) (m : Nat) (hL : rows.length ≤ 1000000) (hb : ∀ i, i ≤ rows.length → (mkS rows m i).2 ≤ 1000000) : ∀ (d i : Nat), i ≤ rows.length → rows.length - i = d →
    Ev (fun k => laws_heldIntSS.l0 k (mkS rows m rows.length).1 ((mkS rows m i).2 : Nat) i) (((mkS rows m rows.length).2 : Nat) : Int) := by
  have hln := mkS_length rows m rows.length
  intro d
  induction d with
  | zero =>
    intro i hi hd
    obtain rfl : i = rows.length := by omega
    refine Ev.step (f := fun k => some (((mkS rows m rows.length).2 : Nat) : Int)) (fun k => ?_) (Ev.now _)
    simp only [laws_heldIntSS.l0]; rw [if_neg (by omega)]
  | succ d ih =>
    intro i hi hd
    have hlt : i < rows.length := by omega
    have hg := mkS_get rows m rows.length i hlt (Nat.le_refl _)
    rw [if_pos hlt] at hg
    have hs := mkS_succ rows m i hlt
    have hbi := hb (i + 1) (by omega)
    have hq := held_f (rows.getD i []).length (mkS rows m i).2 (by omega)
    rw [← hs] at hq
    have hrd : rd_L2 (mkS rows m rows.length).1 (i : Int) = iota (mkS rows m i).2 (rows.getD i []).length := hg
    refine Ev.step (f := fun k => (laws_heldIntS.f k (iota (mkS rows m i).2 (rows.getD i []).length) ((mkS rows m i).2 : Nat)).bind fun t => if t < 0 then some (-1) else laws_heldIntSS.l0 k (mkS rows m rows.length).1 t ((i + 1 : Nat) : Int)) (fun k => ?_) (Ev.bind hq ?_)
    · simp only [laws_heldIntSS.l0, hrd]
      rw [if_pos (by omega), if_pos (by omega), wsucc (by omega)]
    · simp only [if_neg (show ¬ (((mkS rows m (i + 1)).2 : Nat) : Int) < 0 by omega)]
      exact ih (i + 1) (by omega) (by omega)
theorem heldSS_f (rows : List (List Int)) (m : Nat) (hL : rows.length ≤ 1000000) (hb : ∀ i, i ≤ rows.length → (mkS rows m i).2 ≤ 1000000) : Ev (fun k => laws_heldIntSS.f k (mkS rows m rows.length).1 (m : Int)) (((mkS rows m rows.length).2 : Nat) : Int) :=
  heldSS_l0 rows m hL hb _ 0 (Nat.zero_le _) rfl
end Go.Proofs.Ytahbpbjgkmcedaa.P

-- The law FnExactRowsOf returns true.
namespace Go.Proofs.Ytahbpbjgkmcedaa.P
open Go.RowKit Go.Proofs.YtahbpbjgkmcedaaW.PrintWords Go.Proofs.YtahbpbjgkmcedaaW.PrintLast Go.Proofs.YtahbpbjgkmcedaaW.PrintMore
set_option linter.unusedVariables false
set_option linter.unusedSimpArgs false

set_option maxHeartbeats 16000000 in
set_option maxRecDepth 100000 in
theorem lawExactRowsOf_calls (s : ByteArray) (w : World) (hz : s.size ≤ 140737488351232) :
    Calls Try.prog 3 #[.string s] w fun e w' => e = .returned (.bool true) ∧ Below w.heap.size w w' := by
  by_cases hl : s.size ≤ 1048576
  · have hs : s.size ≤ 70368744177664 := by omega
    obtain ⟨k1, hk1⟩ := (srowsOf_f s hs).rounds
    obtain ⟨k2, hk2⟩ := (irowsOf_f s hs).rounds
    obtain ⟨hm1, hm2⟩ := rwr_small (chrs s)
    have hle : ∀ r ∈ (rwr (chrs s)).1, r.length ≤ 1000000 := fun r hr => by rw [hm2 r hr]; omega
    obtain ⟨k3, hk3⟩ := (eqSS_f (rwr (chrs s)).1 (by omega) hle).rounds
    have hb : ∀ i, i ≤ (rwr (chrs s)).1.length → (mkS (rwr (chrs s)).1 1 i).2 ≤ 1000000 := fun i hi => by
      have := mkS_le (rwr (chrs s)).1 1 2 (fun r hr => by rw [hm2 r hr]; omega) i hi
      omega
    obtain ⟨k4, hk4⟩ := (heldSS_f (rwr (chrs s)).1 1 (by omega) hb).rounds
    have hlen := mkS_length (rwr (chrs s)).1 1 (rwr (chrs s)).1.length
    have hbm := hb _ (Nat.le_refl _)
    have hk1' : spec_RowsOf.f k1 s = some ((rwr (chrs s)).1, (rwr (chrs s)).2) := hk1
    have hk2' : impl_RowsOf.f k2 s = some ((rwr (chrs s)).1, (rwr (chrs s)).2) := hk2
    have hML : (rwr (chrs s)).1.length ≤ 1000000 := by omega
    generalize (rwr (chrs s)).1 = L at *
    generalize (rwr (chrs s)).2 = b at *
    have HS := fun w => Aside0.mk (spec_RowsOf.calls k1 s L b w hk1')
    have HI := fun w => Aside0.mk (impl_RowsOf.calls k2 s L b w hk2')
    have HE := Aside0.mk hk3
    have HM : ∀ (v : Value) (ok : Nat → Prop) (w0 w : World), Below w0.heap.size w0 w → Kd.S (Kd.slice 3 (Kd.int .i64)) 35 w w0.heap.size ok v L →
        Aside0 (Calls Try.prog 7 #[v, .int .i64 1] w fun e w' => e = .returned (.int .i64 ((mkS L 1 L.length).2 : Nat)) ∧ Kd.S (Kd.slice 3 (Kd.int .i64)) 35 w' w0.heap.size ok v (mkS L 1 L.length).1 ∧ Below w0.heap.size w0 w' ∧ Kept w w' ok) :=
      fun v ok w0 w hB hS => Aside0.mk (markIntSS_calls ok v L 1 hb hML w0 w hB hS)
    have HDD : ∀ (A : Option Addr) (c : Nat) (w : World), Kd.C (Kd.slice 3 (Kd.int .i64)) w A L.length (mkS L 1 L.length).1 → L.length ≤ c →
        Aside0 (Calls Try.prog 8 #[.slice A L.length c, .int .i64 1] w fun e w' => e = .returned (.int .i64 ((mkS L 1 L.length).2 : Nat)) ∧ Drawn0 w w') := fun A c w hC hc => by
      have h := laws_heldIntSS.calls k4 A c (mkS L 1 L.length).1 1 ((mkS L 1 L.length).2 : Nat) w (by rw [hlen]; exact hC) (by rw [hlen]; exact hc) hk4
      rw [hlen] at h
      exact ⟨h⟩
    have HLN := Aside0.mk hlen
    clear hk1 hk2 hk1' hk2' hk3 hk4 hb hm1 hm2 hle hML hlen
    generalize (mkS L 1 L.length).1 = M at *
    generalize (mkS L 1 L.length).2 = m at *
    have hmm : ¬ (m : Int) < 0 := by omega
    clear hs
    go_enter Try.func3, Try.ntmps3
    go_wp2_with (first
      | (go_at_call 8; have C7 := Aside0.mk (Kd.S_reads' (Kd.S_below (Kd.S_below HS5.out HB6.out) HB7.out)).2.2; rw [HLN.out] at C7; (refine (HDD A1 c1 _ C7.out C1.out).out.mono ?_; rintro e w8 ⟨rfl, hd⟩; have HB8 := Aside0.mk (drawn0_below hd); clear hd))
      | (go_at_call 8; have C4 := Aside0.mk (Kd.S_reads' HS4.out).2.2; rw [HLN.out] at C4; (refine (HDD A1 c1 w4 C4.out C1.out).out.mono ?_; rintro e w5 ⟨rfl, hd⟩; have HB5 := Aside0.mk (drawn0_below hd); have HS5 := Aside0.mk (Kd.S_below HS4.out HB5.out); clear hd C4))
      | (go_at_call 6; (refine (laws_eqIntSS.calls k3 A6 c6 L A0 c0 L true w6 (Kd.S_reads' HS6.out).2.2 C6.out (Kd.S_reads' (Kd.S_below HS1.out (below_step (below_step HB4.out HB5.out) HB6.out))).2.2 C0.out HE.out).mono ?_; rintro e w7 ⟨rfl, hd⟩; have HB7 := Aside0.mk (drawn0_below hd); clear hd))
      | (go_at_call 5; have _tok := HB5; (refine (HI _).out.mono ?_; rintro e w6 ⟨v6, rfl, hS6, hb6⟩; obtain ⟨A6, c6, rfl, hc6, hC6⟩ := Kd.S_reads hS6; have HS6 := Aside0.mk hS6; have HB6 := Aside0.mk hb6; have C6 := Aside0.mk hc6; clear hS6 hb6 hC6 hc6 _tok))
      | (go_at_call 7; (refine (HM (.slice A1 L.length c1) (fun _ => True) w1 w3 (below_step HB2.out HB3.out) HS3.out).out.mono ?_; rintro e w4 ⟨rfl, hS4, hB4, hK4⟩; have HS4 := Aside0.mk hS4; have HB4 := Aside0.mk hB4; clear hS4 hB4 hK4))
      | (go_at_call 6; (refine (laws_eqIntSS.calls k3 A1 c1 L A0 c0 L true _ (Kd.S_reads' HS2.out).2.2 C1.out (Kd.S_reads' (Kd.S_below HS1.out HB2.out)).2.2 C0.out HE.out).mono ?_; rintro e w3 ⟨rfl, hd⟩; have HB3 := Aside0.mk (drawn0_below hd); have HS3 := Aside0.mk (Kd.S_below HS2.out HB3.out); clear hd))
      | (go_at_call 4; (refine (HS _).out.mono ?_; rintro e w1 ⟨v0, rfl, hS1, hb1⟩; obtain ⟨A0, c0, rfl, hc0, hC0⟩ := Kd.S_reads hS1; have HS1 := Aside0.mk hS1; have HB1 := Aside0.mk hb1; have C0 := Aside0.mk hc0; clear hS1 hb1 hC0 hc0))
      | (go_at_call 5; (refine (HI _).out.mono ?_; rintro e w2 ⟨v1, rfl, hS2, hb2⟩; obtain ⟨A1, c1, rfl, hc1, hC1⟩ := Kd.S_reads hS2; have HS2 := Aside0.mk hS2; have HB2 := Aside0.mk hb2; have C1 := Aside0.mk hc1; clear hS2 hb2 hC1 hc1)))
    go_ret
    exact ⟨rfl, below_step (below_step (below_step (below_step (below_step HB1.out HB4.out) HB5.out) HB6.out) HB7.out) HB8.out⟩
  · have h1 : ¬ ((s.size : Int) ≤ 1048576) := by omega
    go_enter Try.func3, Try.ntmps3
    go_wp2
    go_ret
    exact ⟨rfl, Below.refl _ _⟩
end Go.Proofs.Ytahbpbjgkmcedaa.P
