/- What these laws reach, joined by a program of this session: contracts (written by that program over the kit's print, or by hand) and plain lemmas. -/
import Derived.Lib.Walk
import Derived.RegionTactic
import Derived.BigRegion
import Derived.Deep.QuietTactic
import Derived.BigQuiet
import Derived.Deep.RegionHeld3
import Derived.Lib.SlBytesConst
import Derived.WalkLawsBesides
import Derived.WalkSpells
import Derived.Test.YtjjnckgdpdelkaaK1
-- The tidy form of a set of numbers told by a tail and a ring is one; texts and what they tell.
namespace Go.Proofs.Ytjjnckgdpdelkaa.P
open Go.RowKit Go.Proofs.YtjjnckgdpdelkaaW.PrintWords Go.Proofs.YtjjnckgdpdelkaaW.PrintLast Go.Proofs.YtjjnckgdpdelkaaW.PrintMore
set_option linter.unusedVariables false
set_option linter.unusedSimpArgs false
/-- Is a number in the set of a tail and a ring? -/
def hasB (t r : List Bool) (n : Nat) : Bool := if n < t.length then t.getD n false else r.getD ((n - t.length) % r.length) false

/-- No shorter ring tells the same: of each proper divisor's period some place is not met. -/
def Prim (r : List Bool) : Prop := r ≠ [] ∧ ∀ d, 0 < d → d < r.length → d ∣ r.length → ∃ i, i < r.length ∧ r.getD i false ≠ r.getD (i % d) false

/-- The tidy form. -/
def Canon (t r : List Bool) : Prop := Prim r ∧ (t = [] ∨ t.getD (t.length - 1) false ≠ r.getD (r.length - 1) false)

theorem hasB_tail {t r : List Bool} {n : Nat} (h : n < t.length) : hasB t r n = t.getD n false := by simp [hasB, h]
theorem hasB_ring {t r : List Bool} {i : Nat} : hasB t r (t.length + i) = r.getD (i % r.length) false := by
  unfold hasB; rw [if_neg (by omega)]; congr 2; omega
theorem hasB_ring' {t r : List Bool} {n : Nat} (h : t.length ≤ n) : hasB t r n = r.getD ((n - t.length) % r.length) false := by
  unfold hasB; rw [if_neg (by omega)]

/-- f comes again by p, from m on. -/
def Per (f : Nat → Bool) (m p : Nat) : Prop := ∀ n, m ≤ n → f (n + p) = f n

theorem Per.mono {f : Nat → Bool} {m m' p : Nat} (h : Per f m p) (hm : m ≤ m') : Per f m' p := fun n hn => h n (by omega)
theorem Per.mul {f : Nat → Bool} {m p : Nat} (h : Per f m p) : ∀ k, Per f m (k * p)
  | 0 => fun n _ => by simp
  | k + 1 => fun n hn => by
    have h1 := Per.mul h k n hn
    have h2 := h (n + k * p) (by omega)
    rw [Nat.succ_mul, ← Nat.add_assoc, h2, h1]
theorem Per.dvd {f : Nat → Bool} {m p q : Nat} (h : Per f m p) (hd : p ∣ q) : Per f m q := by
  obtain ⟨k, rfl⟩ := hd
  rw [Nat.mul_comm]; exact h.mul k
theorem hasB_per (t r : List Bool) : Per (hasB t r) t.length r.length := fun n hn => by
  rw [hasB_ring' hn, hasB_ring' (by omega)]
  congr 1
  rw [show n + r.length - t.length = (n - t.length) + r.length by omega, Nat.add_mod_right]

/-- From a point far out on, a number and another one of the same rest. -/
theorem Per.mod {f : Nat → Bool} {m p : Nat} (h : Per f m p) (n : Nat) (hn : m ≤ n) : f n = f (m + (n - m) % p) := by
  have h1 := h.mul ((n - m) / p) (m + (n - m) % p) (by omega)
  rw [← h1]
  congr 1
  have := Nat.mod_add_div (n - m) p
  rw [Nat.mul_comm] at this
  omega

/-- Two numbers' greatest divisor, out of both: g + a q = b p. -/
theorem bezout_nat (p : Nat) : ∀ q, 0 < p → ∃ a b, Nat.gcd p q + a * q = b * p := by
  intro q hp
  have key : ∀ n, ∀ p q : Nat, p + q ≤ n → 0 < p → (∃ a b, Nat.gcd p q + a * q = b * p) := by
    intro n
    induction n with
    | zero => intro p q h hp; omega
    | succ n ih =>
      intro p q h hp
      rcases Nat.eq_zero_or_pos q with rfl | hq
      · exact ⟨0, 1, by simp⟩
      · rcases Nat.lt_or_ge q p with hlt | hge
        · -- q < p: swap
          obtain ⟨a, b, e⟩ := ih q (p % q) (by have := Nat.mod_lt p hq; omega) hq
          -- gcd q (p % q) + a (p % q) = b q
          have hg : Nat.gcd q (p % q) = Nat.gcd p q := by rw [Nat.gcd_comm p q, Nat.gcd_rec q p, Nat.gcd_comm]
          rw [hg] at e
          -- p = q (p/q) + p % q : g + a p = (b + a (p/q)) q ; want g + A q = B p
          have hp2 := Nat.mod_add_div p q
          have e2 : Nat.gcd p q + a * p = (b + a * (p / q)) * q := by
            have : a * p = a * (p % q) + a * (p / q) * q := by
              conv => lhs; rw [← hp2]
              rw [Nat.mul_add, Nat.mul_comm q (p / q), Nat.mul_assoc]
            rw [this, Nat.add_mul, ← Nat.add_assoc, e]
          -- g + a p = c q. take B = a' p with...: g + (k p - c) q = (k q - a) p with k large
          refine ⟨(b + a * (p / q) + a) * p - (b + a * (p / q)), (b + a * (p / q) + a) * q - a, ?_⟩
          generalize hc : b + a * (p / q) = c at e2 ⊢
          have h1 : c ≤ (c + a) * p := Nat.le_trans (Nat.le_add_right c a) (Nat.le_mul_of_pos_right _ hp)
          have h2 : a ≤ (c + a) * q := Nat.le_trans (Nat.le_add_left a c) (Nat.le_mul_of_pos_right _ hq)
          rw [Nat.sub_mul, Nat.sub_mul]
          have h3 : c * q ≤ (c + a) * p * q := Nat.mul_le_mul_right q h1
          have h4 : a * p ≤ (c + a) * q * p := Nat.mul_le_mul_right p h2
          have h5 : (c + a) * p * q = (c + a) * q * p := by rw [Nat.mul_assoc, Nat.mul_comm p q, Nat.mul_assoc]
          omega
        · obtain ⟨a, b, e⟩ := ih p (q - p) (by omega) hp
          have hg : Nat.gcd p (q - p) = Nat.gcd p q := Nat.gcd_sub_self_right hge
          rw [hg] at e
          refine ⟨a, b + a, ?_⟩
          have : a * q = a * (q - p) + a * p := by rw [← Nat.mul_add]; congr 1; omega
          rw [this, ← Nat.add_assoc, e, Nat.add_mul]
  exact key (p + q) p q (Nat.le_refl _) hp

theorem Per.gcd {f : Nat → Bool} {m p q : Nat} (hp : 0 < p) (h : Per f m p) (h' : Per f m q) : Per f m (Nat.gcd p q) := by
  obtain ⟨a, b, e⟩ := bezout_nat p q hp
  intro n hn
  have h1 := h'.mul a (n + Nat.gcd p q) (by omega)
  have h2 := h.mul b n hn
  rw [← h1, Nat.add_assoc, e, h2]

theorem prim_period {t r : List Bool} (h : Prim r) {M g : Nat} (hg : 0 < g) (hd : g ∣ r.length) (hM : t.length ≤ M) (hp : Per (hasB t r) M g) : g = r.length := by
  rcases Nat.lt_or_ge g r.length with hlt | hge
  · exfalso
    obtain ⟨i, hi, hne⟩ := h.2 g hg hlt hd
    apply hne
    -- r[i] = f (m + i + k p) with k p large
    have hpos : 0 < r.length := by omega
    have e1 : ∀ j, j < r.length → r.getD j false = hasB t r (t.length + (j + M * r.length)) := by
      intro j hj
      rw [hasB_ring, Nat.add_mul_mod_self_right, Nat.mod_eq_of_lt hj]
    have hMl : M ≤ M * r.length := Nat.le_mul_of_pos_right _ hpos
    have hmod : i % g < r.length := Nat.lt_of_lt_of_le (Nat.mod_lt i hg) (by omega)
    rw [e1 i hi, e1 (i % g) hmod]
    have := hp.mul (i / g) (t.length + (i % g + M * r.length)) (by omega)
    rw [← this]
    congr 1
    have := Nat.mod_add_div i g
    rw [Nat.mul_comm] at this
    omega
  · exact Nat.le_antisymm (Nat.le_of_dvd (by have := h.1; exact List.length_pos_iff.2 this) hd) hge

/-- THE TIDY FORM IS ONE. -/
theorem canon_unique {t r t' r' : List Bool} (h : Canon t r) (h' : Canon t' r') (he : ∀ n, hasB t r n = hasB t' r' n) : t = t' ∧ r = r' := by
  have hf : hasB t r = hasB t' r' := funext he
  have hr : 0 < r.length := List.length_pos_iff.2 h.1.1
  have hr' : 0 < r'.length := List.length_pos_iff.2 h'.1.1
  have p1 : Per (hasB t r) (t.length + t'.length) r.length := (hasB_per t r).mono (by omega)
  have p2 : Per (hasB t r) (t.length + t'.length) r'.length := by rw [hf]; exact (hasB_per t' r').mono (by omega)
  have pg := p1.gcd hr p2
  have hgp : 0 < Nat.gcd r.length r'.length := Nat.gcd_pos_of_pos_left _ hr
  have e1 := prim_period (M := t.length + t'.length) h.1 hgp (Nat.gcd_dvd_left _ _) (by omega) pg
  have e2 := prim_period (t := t') (M := t.length + t'.length) h'.1 hgp (Nat.gcd_dvd_right _ _) (by omega) (by rw [← hf]; exact pg)
  have hl : r.length = r'.length := by omega
  have aux : ∀ {t r t' r' : List Bool}, Canon t' r' → hasB t r = hasB t' r' → r.length = r'.length → 0 < r.length → ¬ t.length < t'.length := by
    intro t r t' r' h' hf hl hr hlt
    rcases h'.2 with h0 | h0
    · rw [h0] at hlt; simp at hlt
    · apply h0
      have a1 : t'.getD (t'.length - 1) false = hasB t r (t'.length - 1) := by rw [hf, hasB_tail (by omega)]
      have a2 : r'.getD (r'.length - 1) false = hasB t r (t'.length - 1 + r.length) := by
        rw [hf, hl, hasB_ring' (by omega)]
        congr 1
        rw [show t'.length - 1 + r'.length - t'.length = r'.length - 1 by omega, Nat.mod_eq_of_lt (by omega)]
      rw [a1, a2, hasB_per t r _ (by omega)]
  have hm : t.length = t'.length := by
    have b1 := aux h' hf hl hr
    have b2 := aux h hf.symm hl.symm hr'
    omega
  constructor
  · apply List.ext_getElem hm
    intro i h1 h2
    have := he i
    rw [hasB_tail h1, hasB_tail h2] at this
    simpa [List.getD_eq_getElem?_getD, h1, h2] using this
  · apply List.ext_getElem hl
    intro i h1 h2
    have := he (t.length + i)
    rw [hasB_ring, hm, hasB_ring, Nat.mod_eq_of_lt h1, Nat.mod_eq_of_lt h2] at this
    simpa [List.getD_eq_getElem?_getD, h1, h2] using this
/-- d parts the ring's length, and all is as d places ahead. -/
def IsPer (r : List Bool) (d : Nat) : Prop := r.length % d = 0 ∧ ∀ i, d ≤ i → i < r.length → r.getD i false = r.getD (i - d) false

theorem IsPer.mod {r : List Bool} {d : Nat} (h : IsPer r d) (hd : 0 < d) : ∀ i, i < r.length → r.getD i false = r.getD (i % d) false := by
  intro i
  induction i using Nat.strongRecOn with
  | _ i ih =>
    intro hi
    rcases Nat.lt_or_ge i d with hlt | hge
    · rw [Nat.mod_eq_of_lt hlt]
    · rw [h.2 i hge hi, ih (i - d) (by omega) (by omega)]
      congr 1
      conv => rhs; rw [show i = (i - d) + d by omega, Nat.add_mod_right]

theorem IsPer.of_mod {r : List Bool} {d : Nat} (hl : r.length % d = 0) (hd : 0 < d) (h : ∀ i, i < r.length → r.getD i false = r.getD (i % d) false) : IsPer r d := by
  refine ⟨hl, fun i hi hlt => ?_⟩
  rw [h i hlt, h (i - d) (by omega)]
  congr 1
  conv => lhs; rw [show i = (i - d) + d by omega, Nat.add_mod_right]

theorem prim_of {r : List Bool} (hr : r ≠ []) (h : ∀ d, 0 < d → d < r.length → ¬ IsPer r d) : Prim r := by
  refine ⟨hr, fun d h0 hlt hd => ?_⟩
  refine Classical.byContradiction fun hn => ?_
  apply h d h0 hlt
  refine IsPer.of_mod (Nat.mod_eq_zero_of_dvd hd) h0 fun i hi => ?_
  exact Classical.byContradiction fun hne => hn ⟨i, hi, hne⟩

theorem take_has {t r : List Bool} {d : Nat} (h : IsPer r d) (h0 : 0 < d) (hd : d ≤ r.length) (x : Nat) : hasB t (r.take d) x = hasB t r x := by
  rcases Nat.lt_or_ge x t.length with hlt | hge
  · rw [hasB_tail hlt, hasB_tail hlt]
  · rw [hasB_ring' hge, hasB_ring' hge]
    have hl : (r.take d).length = d := by rw [List.length_take]; omega
    have hdv : d ∣ r.length := Nat.dvd_of_mod_eq_zero h.1
    rw [hl, h.mod h0 _ (Nat.mod_lt _ (by omega)), Nat.mod_mod_of_dvd _ hdv]
    simp [List.getD_eq_getElem?_getD, List.getElem?_take, Nat.mod_lt _ h0]

/-- The last sign of the tail goes into the ring. -/
def rotR (r : List Bool) : List Bool := r.getD (r.length - 1) false :: r.take (r.length - 1)
theorem rotR_length {r : List Bool} (hr : r ≠ []) : (rotR r).length = r.length := by
  have := List.length_pos_iff.2 hr
  simp [rotR]; omega
theorem rotR_get {r : List Bool} (hr : r ≠ []) {i : Nat} (hi : i < r.length) : (rotR r).getD i false = if i = 0 then r.getD (r.length - 1) false else r.getD (i - 1) false := by
  cases i with
  | zero => simp [rotR]
  | succ i =>
    simp [rotR, List.getD_eq_getElem?_getD, List.getElem?_take]
    rw [if_pos (by omega)]
theorem rot_has {t r : List Bool} (ht : t ≠ []) (hr : r ≠ []) (h : t.getD (t.length - 1) false = r.getD (r.length - 1) false) (x : Nat) :
    hasB (t.take (t.length - 1)) (rotR r) x = hasB t r x := by
  have hm := List.length_pos_iff.2 ht
  have hn := List.length_pos_iff.2 hr
  have hl : (t.take (t.length - 1)).length = t.length - 1 := by rw [List.length_take]; omega
  rcases Nat.lt_or_ge x (t.length - 1) with hlt | hge
  · rw [hasB_tail (by omega), hasB_tail (by omega)]
    simp only [List.getD_eq_getElem?_getD, List.getElem?_take, if_pos hlt]
  · rw [hasB_ring' (by omega), hl, rotR_length hr]
    have hmod := Nat.mod_lt (x - (t.length - 1)) hn
    rw [rotR_get hr hmod]
    rcases Nat.eq_or_lt_of_le hge with he | hgt
    · rw [← he, Nat.sub_self, Nat.zero_mod, if_pos rfl, hasB_tail (by omega), h]
    · rw [hasB_ring' (by omega), show x - (t.length - 1) = (x - t.length) + 1 by omega]
      have hmod2 := Nat.mod_lt (x - t.length) hn
      rcases Nat.eq_or_lt_of_le (show (x - t.length) % r.length + 1 ≤ r.length by omega) with he | hlt
      · have : ((x - t.length) + 1) % r.length = 0 := by rw [Nat.add_mod]; rcases Nat.eq_or_lt_of_le (show 1 ≤ r.length from hn) with h1 | h1
                                                         · rw [← h1]; exact Nat.mod_one _
                                                         · rw [Nat.mod_eq_of_lt h1, he, Nat.mod_self]
        rw [this, if_pos rfl]; congr 1; omega
      · have : ((x - t.length) + 1) % r.length = (x - t.length) % r.length + 1 := by
          rw [Nat.add_mod, Nat.mod_eq_of_lt (show 1 < r.length by omega), Nat.mod_eq_of_lt hlt]
        rw [this, if_neg (by omega), Nat.add_sub_cancel]

theorem prim_rot {r : List Bool} (h : Prim r) : Prim (rotR r) := by
  have hr := h.1
  have hn := List.length_pos_iff.2 hr
  refine prim_of (by simp [rotR]) fun d h0 hlt hp => ?_
  rw [rotR_length hr] at hlt
  have hd : d ∣ r.length := by rw [← rotR_length hr]; exact Nat.dvd_of_mod_eq_zero hp.1
  have e : hasB [r.getD (r.length - 1) false] r = hasB [] (rotR r) := funext fun x => by
    have := rot_has (t := [r.getD (r.length - 1) false]) (by simp) hr (by simp) x
    rw [← this]; simp
  have hper : Per (hasB [r.getD (r.length - 1) false] r) 1 d := by
    rw [e]
    intro n _
    have e1 := take_has (t := []) hp h0 (by rw [rotR_length hr]; omega)
    rw [← e1, ← e1]
    have := hasB_per [] ((rotR r).take d) n (by simp)
    rwa [List.length_take, rotR_length hr, Nat.min_eq_left (by omega)] at this
  have := prim_period (t := [r.getD (r.length - 1) false]) (M := 1) h h0 hd (by simp) hper
  omega

/-- (t', r') is the tidy form of (t, r). -/
structure Tidy (t r t' r' : List Bool) : Prop where
  canon : Canon t' r'
  has : ∀ n, hasB t' r' n = hasB t r n
  tl : t'.length ≤ t.length
  rl : r'.length ≤ r.length
theorem Tidy.same {t r t' r' a b : List Bool} (h : Tidy t r t' r') (h' : Tidy t r a b) : t' = a ∧ r' = b := canon_unique h.canon h'.canon fun n => by rw [h.has, h'.has]
theorem Tidy.pos {t r t' r' : List Bool} (h : Tidy t r t' r') : 0 < r'.length := List.length_pos_iff.2 h.canon.1.1
theorem prim_take {r : List Bool} {d : Nat} (hd : 0 < d) (hdl : d ≤ r.length) (hp : IsPer r d) (hmin : ∀ d', 0 < d' → d' < d → ¬ IsPer r d') : Prim (r.take d) := by
  have hl : (r.take d).length = d := by rw [List.length_take]; omega
  refine prim_of (by intro e; rw [e] at hl; simp at hl; omega) fun d' h0 h1 h2 => ?_
  rw [hl] at h1
  apply hmin d' h0 h1
  have g1 : ∀ i, i < d → (r.take d).getD i false = r.getD i false := fun i hi => by simp only [List.getD_eq_getElem?_getD, List.getElem?_take, if_pos hi]
  have hdd : d' ∣ d := by rw [← hl]; exact Nat.dvd_of_mod_eq_zero h2.1
  refine IsPer.of_mod (Nat.mod_eq_zero_of_dvd (Nat.dvd_trans hdd (Nat.dvd_of_mod_eq_zero hp.1))) h0 fun i hi => ?_
  have a1 := hp.mod hd i hi
  have hm := Nat.mod_lt i hd
  have a2 := h2.mod h0 (i % d) (by rw [hl]; exact hm)
  rw [g1 _ hm, g1 _ (Nat.lt_trans (Nat.mod_lt _ h0) h1), Nat.mod_mod_of_dvd _ hdd] at a2
  rw [a1, a2]

theorem tidy_exists : ∀ (n : Nat) (t r : List Bool), t.length + r.length = n → r ≠ [] → ∃ t' r', Tidy t r t' r' := by
  intro n
  induction n using Nat.strongRecOn with
  | _ n ih =>
    intro t r hn hr
    have hpos := List.length_pos_iff.2 hr
    by_cases hex : ∃ d, 0 < d ∧ d < r.length ∧ IsPer r d
    · obtain ⟨d, h0, hd, hp⟩ := hex
      have hlt : (r.take d).length = d := by rw [List.length_take]; omega
      obtain ⟨t', r', h⟩ := ih (t.length + (r.take d).length) (by omega) t (r.take d) rfl (by intro e; rw [e] at hlt; simp at hlt; omega)
      exact ⟨t', r', h.canon, fun x => by rw [h.has, take_has hp h0 (by omega)], h.tl, by have := h.rl; omega⟩
    · have hprim : Prim r := prim_of hr fun d h0 h1 hp => hex ⟨d, h0, h1, hp⟩
      by_cases ht : t = []
      · exact ⟨t, r, ⟨hprim, .inl ht⟩, fun _ => rfl, Nat.le_refl _, Nat.le_refl _⟩
      · have htp := List.length_pos_iff.2 ht
        by_cases he : t.getD (t.length - 1) false = r.getD (r.length - 1) false
        · obtain ⟨t', r', h⟩ := ih ((t.take (t.length - 1)).length + (rotR r).length) (by rw [rotR_length hr, List.length_take]; omega) (t.take (t.length - 1)) (rotR r) rfl (by simp [rotR])
          exact ⟨t', r', h.canon, fun x => by rw [h.has, rot_has ht hr he], by have := h.tl; rw [List.length_take] at this; omega, by have := h.rl; rw [rotR_length hr] at this; omega⟩
        · exact ⟨t, r, ⟨hprim, .inr he⟩, fun _ => rfl, Nat.le_refl _, Nat.le_refl _⟩

/-- The tidy tail and ring of a set. -/
noncomputable def cn (f : Nat → Bool) : List Bool × List Bool :=
  open Classical in if h : ∃ p : List Bool × List Bool, Canon p.1 p.2 ∧ hasB p.1 p.2 = f then Classical.choose h else ([], [])
theorem cn_uniq {t r : List Bool} {f : Nat → Bool} (h : Canon t r) (hf : hasB t r = f) : cn f = (t, r) := by
  have hx : ∃ p : List Bool × List Bool, Canon p.1 p.2 ∧ hasB p.1 p.2 = f := ⟨(t, r), h, hf⟩
  unfold cn
  rw [dif_pos hx]
  have hs := Classical.choose_spec hx
  obtain ⟨e1, e2⟩ := canon_unique hs.1 h fun n => by rw [hs.2, hf]
  exact Prod.ext e1 e2
theorem Tidy.cn {t r t' r' : List Bool} (h : Tidy t r t' r') : cn (hasB t r) = (t', r') := cn_uniq h.canon (funext h.has)
theorem cn_tidy {t r : List Bool} (hr : r ≠ []) : Tidy t r (cn (hasB t r)).1 (cn (hasB t r)).2 := by
  obtain ⟨t', r', h⟩ := tidy_exists _ t r rfl hr
  rw [h.cn]; exact h

/-- The signs of a set: the first m, and the p behind these. -/
def mkT (f : Nat → Bool) (m : Nat) : List Bool := (List.range m).map f
def mkR (f : Nat → Bool) (m p : Nat) : List Bool := (List.range p).map fun i => f (m + i)
theorem mkT_length (f : Nat → Bool) (m : Nat) : (mkT f m).length = m := by simp [mkT]
theorem mkR_length (f : Nat → Bool) (m p : Nat) : (mkR f m p).length = p := by simp [mkR]
theorem mkT_get (f : Nat → Bool) {m i : Nat} (h : i < m) : (mkT f m).getD i false = f i := by simp [mkT, List.getD_eq_getElem?_getD, h]
theorem mkR_get (f : Nat → Bool) {m p i : Nat} (h : i < p) : (mkR f m p).getD i false = f (m + i) := by simp [mkR, List.getD_eq_getElem?_getD, h]
theorem mkR_ne (f : Nat → Bool) {m p : Nat} (h : 0 < p) : mkR f m p ≠ [] := by intro e; have := mkR_length f m p; rw [e] at this; simp at this; omega
theorem mk_has {f : Nat → Bool} {m p : Nat} (hp : 0 < p) (h : Per f m p) : hasB (mkT f m) (mkR f m p) = f := by
  funext x
  rcases Nat.lt_or_ge x m with hlt | hge
  · rw [hasB_tail (by rw [mkT_length]; exact hlt), mkT_get f hlt]
  · rw [hasB_ring' (by rw [mkT_length]; exact hge), mkT_length, mkR_length, mkR_get f (Nat.mod_lt _ hp), ← h.mod x hge]
theorem mkT_succ (f : Nat → Bool) (m : Nat) : mkT f (m + 1) = mkT f m ++ [f m] := by simp [mkT, List.range_succ]
theorem mkR_succ (f : Nat → Bool) (m p : Nat) : mkR f m (p + 1) = mkR f m p ++ [f (m + p)] := by simp [mkR, List.range_succ]
theorem mkT_add (f : Nat → Bool) (m p : Nat) : mkT f (m + p) = mkT f m ++ mkR f m p := by
  induction p with
  | zero => simp [mkR]
  | succ p ih => rw [← Nat.add_assoc, mkT_succ, ih, mkR_succ, List.append_assoc]
theorem mkT_take (f : Nat → Bool) (m p : Nat) : (mkT f (m + p)).take m = mkT f m := by rw [mkT_add, List.take_left' (mkT_length f m)]
theorem mkT_drop (f : Nat → Bool) (m p : Nat) : (mkT f (m + p)).drop m = mkR f m p := by rw [mkT_add, List.drop_left' (mkT_length f m)]

theorem cn_spec {f : Nat → Bool} {m p : Nat} (hp : 0 < p) (h : Per f m p) : Canon (cn f).1 (cn f).2 ∧ hasB (cn f).1 (cn f).2 = f ∧ (cn f).1.length ≤ m ∧ (cn f).2.length ≤ p := by
  have ht := cn_tidy (t := mkT f m) (mkR_ne f (m := m) hp)
  rw [mk_has hp h] at ht
  refine ⟨ht.canon, funext fun n => by rw [ht.has, mk_has hp h], ?_, ?_⟩
  · have := ht.tl; rwa [mkT_length] at this
  · have := ht.rl; rwa [mkR_length] at this
theorem cn_has {f : Nat → Bool} {m p : Nat} (hp : 0 < p) (h : Per f m p) : hasB (cn f).1 (cn f).2 = f := (cn_spec hp h).2.1
theorem cn_ne {f : Nat → Bool} {m p : Nat} (hp : 0 < p) (h : Per f m p) : (cn f).2 ≠ [] := (cn_spec hp h).1.1.1

/-- The least number by which the rest is the same. -/
def restN (t r : List Bool) (k : Nat) : Nat := if k < t.length then k else t.length + (k - t.length) % r.length
theorem restN_lt {t r : List Bool} (hr : 0 < r.length) (k : Nat) : restN t r k < t.length + r.length := by
  unfold restN
  have := Nat.mod_lt (k - t.length) hr
  split <;> omega
theorem restN_self {t r : List Bool} {k : Nat} (h : k < t.length + r.length) : restN t r k = k := by
  unfold restN
  split
  · rfl
  · rw [Nat.mod_eq_of_lt (by omega)]; omega
theorem restN_idem {t r : List Bool} (hr : 0 < r.length) (k : Nat) : restN t r (restN t r k) = restN t r k := restN_self (restN_lt hr k)
theorem restN_le {t r : List Bool} (k : Nat) : restN t r k ≤ k := by
  unfold restN
  split
  · exact Nat.le_refl _
  · have := Nat.mod_le (k - t.length) r.length; omega
theorem has_restN {t r : List Bool} (hr : 0 < r.length) (k n : Nat) : hasB t r (n + k) = hasB t r (n + restN t r k) := by
  unfold restN
  split
  · rfl
  · rename_i h
    have hp := hasB_per t r
    have h1 := hp.mul ((k - t.length) / r.length) (n + (t.length + (k - t.length) % r.length)) (by omega)
    rw [← h1]
    congr 1
    have := Nat.mod_add_div (k - t.length) r.length
    rw [Nat.mul_comm] at this
    omega
/-- Rests by two lesser numbers are different. -/
theorem rest_diff {t r : List Bool} (h : Canon t r) {i j : Nat} (hij : i < j) (hj : j < t.length + r.length) (he : ∀ n, hasB t r (n + i) = hasB t r (n + j)) : False := by
  have hr := List.length_pos_iff.2 h.1.1
  have hd : Per (hasB t r) i (j - i) := fun n hn => by
    have := he (n - i)
    rw [show n - i + i = n by omega, show n - i + j = n + (j - i) by omega] at this
    exact this.symm
  have hg := (hd.mono (m' := max i t.length) (by omega)).gcd (by omega) ((hasB_per t r).mono (m' := max i t.length) (by omega))
  have hgp : 0 < Nat.gcd (j - i) r.length := Nat.gcd_pos_of_pos_left _ (by omega)
  have e := prim_period (t := t) (M := max i t.length) h.1 hgp (Nat.gcd_dvd_right _ _) (by omega) hg
  have hdv : r.length ∣ j - i := by rw [← e]; exact Nat.gcd_dvd_left _ _
  have hle := Nat.le_of_dvd (by omega) hdv
  rcases Nat.lt_or_ge i t.length with hlt | hge
  · rcases h.2 with h0 | h0
    · rw [h0] at hlt; simp at hlt
    · apply h0
      have h1 := hd (t.length - 1) (by omega)
      rw [hasB_tail (show t.length - 1 < t.length by omega), hasB_ring' (by omega)] at h1
      rw [← h1]
      congr 1
      obtain ⟨c, hc⟩ := hdv
      have hc0 : 0 < c := by rcases Nat.eq_zero_or_pos c with h | h; rw [h, Nat.mul_zero] at hc; omega; exact h
      have hmul : r.length * c = r.length * (c - 1) + r.length := by
        rw [← Nat.mul_succ]; congr 1; omega
      rw [hc, show t.length - 1 + r.length * c - t.length = (r.length - 1) + r.length * (c - 1) by omega, Nat.add_mul_mod_self_left, Nat.mod_eq_of_lt (by omega)]
  · omega
theorem rest_same {t r : List Bool} (h : Canon t r) (i j : Nat) : (∀ n, hasB t r (n + i) = hasB t r (n + j)) ↔ restN t r i = restN t r j := by
  have hr := List.length_pos_iff.2 h.1.1
  constructor
  · intro he
    have he2 : ∀ n, hasB t r (n + restN t r i) = hasB t r (n + restN t r j) := fun n => by rw [← has_restN hr, ← has_restN hr, he]
    rcases Nat.lt_trichotomy (restN t r i) (restN t r j) with hlt | heq | hgt
    · exact (rest_diff h hlt (restN_lt hr j) he2).elim
    · exact heq
    · exact (rest_diff h hgt (restN_lt hr i) fun n => (he2 n).symm).elim
  · intro he n
    rw [has_restN hr i, has_restN hr j, he]

theorem bitsL_length : ∀ {s : List UInt8} {l : List Bool}, bitsL s = some l → l.length = s.length
  | [], l, h => by simp [bitsL] at h; subst h; rfl
  | c :: cs, l, h => by
    simp only [bitsL] at h
    split at h
    · obtain ⟨q, hq, rfl⟩ := Option.map_eq_some_iff.1 h; simp [bitsL_length hq]
    · split at h
      · obtain ⟨q, hq, rfl⟩ := Option.map_eq_some_iff.1 h; simp [bitsL_length hq]
      · cases h
theorem bitsL_sgn : ∀ l : List Bool, bitsL (l.map sgn) = some l
  | [] => rfl
  | b :: l => by cases b <;> simp [bitsL, sgn, bitsL_sgn l]
theorem byteArray_empty_chrs : chrs (⟨#[]⟩ : ByteArray) = [] := rfl
/-- A set text: its tail and its ring. -/
def parse (s : List UInt8) : Option (List Bool × List Bool) :=
  if s.findIdx (· == 40) + 2 < s.length ∧ s[s.length - 1]? = some 41 then
    match bitsL (s.take (s.findIdx (· == 40))), bitsL ((s.take (s.length - 1)).drop (s.findIdx (· == 40) + 1)) with
    | some a, some b => if a.length ≤ 60 ∧ b.length ≤ 60 then some (a, b) else none
    | _, _ => none
  else none
def parsed (s : ByteArray) (t r : List Bool) : List Bool × List Bool × Bool := match parse (chrs s) with | some (a, b) => (a, b, true) | none => (t, r, false)

theorem parse_some {s : List UInt8} {a b : List Bool} (h : parse s = some (a, b)) : a.length ≤ 60 ∧ b.length ≤ 60 ∧ b ≠ [] := by
  unfold parse at h
  split at h
  · rename_i hc
    split at h
    · rename_i x y hx hy
      split at h
      · rename_i hl
        simp only [Option.some.injEq, Prod.mk.injEq] at h
        obtain ⟨rfl, rfl⟩ := h
        refine ⟨hl.1, hl.2, fun e => ?_⟩
        have := bitsL_length hy
        rw [e] at this
        simp at this
        omega
      · cases h
    · cases h
  · cases h


/-- The text of a set, and true; false if it is too long. -/
def txt (p : List Bool × List Bool) : ByteArray × Bool := if p.1.length ≤ 60 ∧ p.2.length ≤ 60 then (textOf p.1 p.2, true) else (⟨#[]⟩, false)
theorem txt_ok {p : List Bool × List Bool} (h1 : p.1.length ≤ 60) (h2 : p.2.length ≤ 60) : txt p = (textOf p.1 p.2, true) := by unfold txt; rw [if_pos ⟨h1, h2⟩]
theorem chrs_append (a b : ByteArray) : chrs (a ++ b) = chrs a ++ chrs b := by simp [chrs, ByteArray.data_append]
theorem parse_ne {s : List UInt8} {a b : List Bool} (h : parse s = some (a, b)) : b ≠ [] := (parse_some h).2.2
theorem findIdx_sgn (t : List Bool) (l : List UInt8) : (t.map sgn ++ 40 :: l).findIdx (· == 40) = t.length := by
  induction t with
  | nil => rfl
  | cons b t ih =>
    rw [List.map_cons, List.cons_append, List.findIdx_cons, ih]
    cases b <;> rfl
/-- A text reads as what it was written of. -/
theorem parse_textOf {t r : List Bool} (ht : t.length ≤ 60) (hr : r.length ≤ 60) (hn : r ≠ []) : parse (chrs (textOf t r)) = some (t, r) := by
  have hpos := List.length_pos_iff.2 hn
  have e : chrs (textOf t r) = t.map sgn ++ 40 :: (r.map sgn ++ [41]) := by rw [chrs_textOf]; simp
  rw [e]
  unfold parse
  rw [findIdx_sgn]
  have hl : (t.map sgn ++ 40 :: (r.map sgn ++ [41])).length = t.length + (r.length + 2) := by simp
  rw [hl, if_pos]
  · have e1 : (t.map sgn ++ 40 :: (r.map sgn ++ [41])).take t.length = t.map sgn := by rw [List.take_left']; simp
    have e2 : ((t.map sgn ++ 40 :: (r.map sgn ++ [41])).take (t.length + (r.length + 2) - 1)).drop (t.length + 1) = r.map sgn := by
      rw [show t.map sgn ++ 40 :: (r.map sgn ++ [41]) = (t.map sgn ++ 40 :: r.map sgn) ++ [41] by simp, List.take_left' (by simp <;> omega), show t.map sgn ++ 40 :: r.map sgn = (t.map sgn ++ [40]) ++ r.map sgn by simp, List.drop_left' (by simp)]
    rw [e1, e2, bitsL_sgn, bitsL_sgn]
    simp only
    rw [if_pos ⟨ht, hr⟩]
  · refine ⟨by omega, ?_⟩
    rw [show t.map sgn ++ 40 :: (r.map sgn ++ [41]) = (t.map sgn ++ 40 :: r.map sgn) ++ [41] by simp, List.getElem?_append_right (by simp <;> omega)]
    rw [show t.length + (r.length + 2) - 1 - (t.map sgn ++ 40 :: r.map sgn).length = 0 by simp <;> omega]; rfl
theorem textOf_inj {t r t' r' : List Bool} (ht : t.length ≤ 60) (hr : r.length ≤ 60) (hn : r ≠ []) (ht' : t'.length ≤ 60) (hr' : r'.length ≤ 60) (hn' : r' ≠ []) (h : textOf t r = textOf t' r') : t = t' ∧ r = r' := by
  have h1 := parse_textOf ht hr hn
  rw [h, parse_textOf ht' hr' hn'] at h1
  simp only [Option.some.injEq, Prod.mk.injEq] at h1
  exact ⟨h1.1.symm, h1.2.symm⟩
theorem textOf_size (t r : List Bool) : (textOf t r).size = t.length + r.length + 2 := by
  rw [← chrs_length, chrs_textOf]; simp <;> omega


end Go.Proofs.Ytjjnckgdpdelkaa.P

-- Texts of rests: as many as the tidy text has signs.
namespace Go.Proofs.Ytjjnckgdpdelkaa.P
open Go.RowKit Go.Proofs.YtjjnckgdpdelkaaW.PrintWords Go.Proofs.YtjjnckgdpdelkaaW.PrintLast Go.Proofs.YtjjnckgdpdelkaaW.PrintMore
set_option linter.unusedVariables false
set_option linter.unusedSimpArgs false

/-- A set, k taken away. -/
def shf (f : Nat → Bool) (k : Nat) : Nat → Bool := fun n => f (n + k)
theorem shf_per {f : Nat → Bool} {m p : Nat} (h : Per f m p) (k : Nat) : Per (shf f k) (m - k) p := fun n hn => by
  unfold shf
  rw [show n + p + k = n + k + p by omega]; exact h _ (by omega)
/-- The text of the rest by k. -/
noncomputable def rtext (f : Nat → Bool) (k : Nat) : ByteArray := textOf (cn (shf f k)).1 (cn (shf f k)).2
/-- The place of the rest by k. -/
noncomputable def rpl (f : Nat → Bool) (k : Nat) : Nat := restN (cn f).1 (cn f).2 k
/-- How many rests. -/
noncomputable def rnum (f : Nat → Bool) : Nat := (cn f).1.length + (cn f).2.length
section
variable {f : Nat → Bool} {m p : Nat}
theorem rpl_lt (hp : 0 < p) (h : Per f m p) (k : Nat) : rpl f k < rnum f := restN_lt (List.length_pos_iff.2 (cn_ne hp h)) k
theorem rpl_self {k : Nat} (hk : k < rnum f) : rpl f k = k := restN_self hk
theorem rpl_le (k : Nat) : rpl f k ≤ k := restN_le k
theorem rnum_le (hp : 0 < p) (h : Per f m p) : rnum f ≤ m + p := by
  have := cn_spec hp h
  unfold rnum; omega
theorem rpl_eq (hp : 0 < p) (h : Per f m p) (i j : Nat) : shf f i = shf f j ↔ rpl f i = rpl f j := by
  have hs := cn_spec hp h
  have := rest_same hs.1 i j
  rw [hs.2.1] at this
  constructor
  · intro e; exact this.1 fun n => congrFun e n
  · intro e; exact funext (this.2 e)
theorem rtext_eq (hp : 0 < p) (h : Per f m p) (hm : m ≤ 60) (hp2 : p ≤ 60) (i j : Nat) : rtext f i = rtext f j ↔ rpl f i = rpl f j := by
  rw [← rpl_eq hp h]
  have si := cn_spec hp (shf_per h i)
  have sj := cn_spec hp (shf_per h j)
  constructor
  · intro e
    obtain ⟨e1, e2⟩ := textOf_inj (by omega) (by omega) si.1.1.1 (by omega) (by omega) sj.1.1.1 e
    rw [← si.2.1, ← sj.2.1, e1, e2]
  · intro e; unfold rtext; rw [e]
end

end Go.Proofs.Ytjjnckgdpdelkaa.P

-- The tidy text of a text.
namespace Go.Proofs.Ytjjnckgdpdelkaa.P
open Go.RowKit Go.Proofs.YtjjnckgdpdelkaaW.PrintWords Go.Proofs.YtjjnckgdpdelkaaW.PrintLast Go.Proofs.YtjjnckgdpdelkaaW.PrintMore
set_option linter.unusedVariables false
set_option linter.unusedSimpArgs false

theorem parse_len {s : List UInt8} {a b : List Bool} (h : parse s = some (a, b)) : s.length = a.length + b.length + 2 := by
  unfold parse at h
  split at h
  · rename_i hc
    split at h
    · rename_i x y hx hy
      split at h
      · simp only [Option.some.injEq, Prod.mk.injEq] at h
        obtain ⟨rfl, rfl⟩ := h
        have h1 := bitsL_length hx
        have h2 := bitsL_length hy
        simp only [List.length_take, List.length_drop] at h1 h2
        omega
      · cases h
    · cases h
  · cases h
/-- The set of a text. -/
def setf (s : List UInt8) : Nat → Bool := match parse s with | some (a, b) => hasB a b | none => fun _ => false
theorem setf_some {s : List UInt8} {a b : List Bool} (h : parse s = some (a, b)) : setf s = hasB a b := by unfold setf; rw [h]
/-- What SetTidy answers. -/
noncomputable def tdy (s : List UInt8) : ByteArray × Bool := match parse s with | some (a, b) => (textOf (cn (hasB a b)).1 (cn (hasB a b)).2, true) | none => (⟨#[]⟩, false)
theorem tdy_some {s : List UInt8} {a b : List Bool} (h : parse s = some (a, b)) : tdy s = (textOf (cn (hasB a b)).1 (cn (hasB a b)).2, true) := by unfold tdy; rw [h]
theorem tdy_none {s : List UInt8} (h : parse s = none) : tdy s = (⟨#[]⟩, false) := by unfold tdy; rw [h]
/-- The tidy text is a text of the same set, tail and ring tidy. -/
theorem parse_cn {f : Nat → Bool} {m p : Nat} (hp : 0 < p) (h : Per f m p) (hm : (cn f).1.length ≤ 60) (hp2 : (cn f).2.length ≤ 60) : parse (chrs (textOf (cn f).1 (cn f).2)) = some ((cn f).1, (cn f).2) :=
  parse_textOf hm hp2 (cn_ne hp h)
theorem cn_cn {f : Nat → Bool} {m p : Nat} (hp : 0 < p) (h : Per f m p) : cn (hasB (cn f).1 (cn f).2) = cn f := by rw [cn_has hp h]
theorem parse_per {s : List UInt8} {a b : List Bool} (h : parse s = some (a, b)) : 0 < b.length ∧ Per (hasB a b) a.length b.length := ⟨List.length_pos_iff.2 (parse_some h).2.2, hasB_per a b⟩
theorem parse_tdy {s : List UInt8} {a b : List Bool} (h : parse s = some (a, b)) : parse (chrs (tdy s).1) = some ((cn (hasB a b)).1, (cn (hasB a b)).2) := by
  obtain ⟨h1, h2⟩ := parse_per h
  have h3 := (cn_spec h1 h2).2.2
  have h4 := parse_some h
  rw [tdy_some h]
  exact parse_cn h1 h2 (by omega) (by omega)
theorem tdy_tdy {s : List UInt8} {a b : List Bool} (h : parse s = some (a, b)) : tdy (chrs (tdy s).1) = tdy s := by
  obtain ⟨h1, h2⟩ := parse_per h
  rw [tdy_some (parse_tdy h), tdy_some h, cn_cn h1 h2]
theorem tdy_size {s : List UInt8} {a b : List Bool} (h : parse s = some (a, b)) : (tdy s).1.size ≤ s.length := by
  obtain ⟨h1, h2⟩ := parse_per h
  have h3 := (cn_spec h1 h2).2.2
  rw [tdy_some h, textOf_size, parse_len h]
  show (cn (hasB a b)).1.length + _ + 2 ≤ _
  omega
/-- Whether two texts tell the same set. -/
noncomputable def sameS (s t : List UInt8) : Bool := (tdy s).2 && (tdy t).2 && ((tdy s).1.toList == (tdy t).1.toList)
theorem tdy_ok {s : List UInt8} : (tdy s).2 = (parse s).isSome := by
  cases h : parse s with
  | none => rw [tdy_none h]; rfl
  | some ab => rw [tdy_some (a := ab.1) (b := ab.2) h]; rfl
theorem sameS_comm (s t : List UInt8) : sameS s t = sameS t s := by
  unfold sameS
  have e : ((tdy s).1.toList == (tdy t).1.toList) = ((tdy t).1.toList == (tdy s).1.toList) := by
    rw [Bool.eq_iff_iff, beq_iff_eq, beq_iff_eq]; exact eq_comm
  rw [e, Bool.and_comm (tdy s).2]
theorem toList_inj {a b : ByteArray} (h : a.toList = b.toList) : a = b := by
  rw [ByteArray.toList_eq, ByteArray.toList_eq] at h
  exact chrs_inj h
theorem sameS_some {s t : List UInt8} {a b c d : List Bool} (h : parse s = some (a, b)) (h' : parse t = some (c, d)) : sameS s t = true ↔ hasB a b = hasB c d := by
  obtain ⟨h1, h2⟩ := parse_per h
  obtain ⟨h1', h2'⟩ := parse_per h'
  have s1 := cn_spec h1 h2
  have s2 := cn_spec h1' h2'
  have q1 := parse_some h
  have q2 := parse_some h'
  unfold sameS
  rw [tdy_some h, tdy_some h']
  simp only [Bool.true_and, Bool.and_true, beq_iff_eq]
  constructor
  · intro e
    have := textOf_inj (by omega) (by omega) (cn_ne h1 h2) (by omega) (by omega) (cn_ne h1' h2') (toList_inj e)
    rw [← s1.2.1, ← s2.2.1, this.1, this.2]
  · intro e; rw [e]

end Go.Proofs.Ytjjnckgdpdelkaa.P

-- Two sets together: from which number on, and by how many, both come again.
namespace Go.Proofs.Ytjjnckgdpdelkaa.P
open Go.RowKit Go.Proofs.YtjjnckgdpdelkaaW.PrintWords Go.Proofs.YtjjnckgdpdelkaaW.PrintLast Go.Proofs.YtjjnckgdpdelkaaW.PrintMore
set_option linter.unusedVariables false
set_option linter.unusedSimpArgs false

/-- Whether something holds. -/
noncomputable def dec (p : Prop) : Bool := @decide p (Classical.propDecidable p)
theorem dec_iff {p : Prop} : dec p = true ↔ p := by unfold dec; exact @decide_eq_true_iff p (Classical.propDecidable p)
theorem dec_true {p : Prop} (h : p) : dec p = true := dec_iff.2 h
theorem dec_false {p : Prop} (h : ¬ p) : dec p = false := by
  cases e : dec p with
  | false => rfl
  | true => exact absurd (dec_iff.1 e) h
theorem dec_congr {p q : Prop} (h : p ↔ q) : dec p = dec q := by rw [show p = q from propext h]
theorem Per.lcm_left {f : Nat → Bool} {m p : Nat} (h : Per f m p) (m' p' : Nat) : Per f (max m m') (Nat.lcm p p') := (h.mono (by omega)).dvd (Nat.dvd_lcm_left p p')
theorem Per.lcm_right {f : Nat → Bool} {m p : Nat} (h : Per f m p) (m' p' : Nat) : Per f (max m' m) (Nat.lcm p' p) := (h.mono (by omega)).dvd (Nat.dvd_lcm_right p' p)
theorem per_all {f g : Nat → Bool} {m p : Nat} (hp : 0 < p) (hf : Per f m p) (hg : Per g m p) {q : Bool → Bool → Prop} (h : ∀ n, n < m + p → q (f n) (g n)) : ∀ n, q (f n) (g n) := fun n => by
  rcases Nat.lt_or_ge n m with hn | hn
  · exact h n (by omega)
  · rw [hf.mod n hn, hg.mod n hn]
    exact h _ (by have := Nat.mod_lt (n - m) hp; omega)
theorem pair_per {f g : Nat → Bool} {m p : Nat} (hf : Per f m p) (hg : Per g m p) (q : Bool → Bool → Bool) : Per (fun n => q (f n) (g n)) m p := fun n hn => by
  show q (f (n + p)) (g (n + p)) = _
  rw [hf n hn, hg n hn]
theorem lcm_small {m n : Nat} (hm : m ≤ 60) (hn : n ≤ 60) : Nat.lcm m n ≤ 3600 := by
  have h1 : Nat.lcm m n ≤ m * n := by unfold Nat.lcm; exact Nat.div_le_self _ _
  have h2 : m * n ≤ 60 * 60 := Nat.mul_le_mul hm hn
  omega
/-- Whether each number of the first one is in the second one. -/
noncomputable def bel (s t : List UInt8) : Bool := (parse s).isSome && (parse t).isSome && dec (∀ n, setf s n = true → setf t n = true)
theorem bel_some {s t : List UInt8} {a b c d : List Bool} (h : parse s = some (a, b)) (h' : parse t = some (c, d)) : bel s t = dec (∀ n, hasB a b n = true → hasB c d n = true) := by
  unfold bel; rw [h, h', setf_some h, setf_some h']; rfl
theorem bel_none1 {s t : List UInt8} (h : parse s = none) : bel s t = false := by unfold bel; rw [h]; rfl
theorem bel_none2 {s t : List UInt8} (h : parse t = none) : bel s t = false := by unfold bel; rw [h]; simp
theorem sameS_none1 {s t : List UInt8} (h : parse s = none) : sameS s t = false := by unfold sameS; rw [tdy_none h]; rfl
theorem sameS_none2 {s t : List UInt8} (h : parse t = none) : sameS s t = false := by unfold sameS; rw [tdy_none h]; simp
theorem bel_same (s t : List UInt8) : (bel s t && bel t s) = sameS s t := by
  cases h : parse s with
  | none => rw [bel_none1 h, sameS_none1 h]; rfl
  | some ab =>
    cases h' : parse t with
    | none => rw [bel_none2 h', sameS_none2 h']; rfl
    | some cd =>
      rw [Bool.eq_iff_iff, Bool.and_eq_true, bel_some (a := ab.1) (b := ab.2) (c := cd.1) (d := cd.2) h h', bel_some (a := cd.1) (b := cd.2) (c := ab.1) (d := ab.2) h' h, dec_iff, dec_iff, sameS_some (a := ab.1) (b := ab.2) (c := cd.1) (d := cd.2) h h']
      constructor
      · rintro ⟨h1, h2⟩
        funext n
        rw [Bool.eq_iff_iff]
        exact ⟨h1 n, h2 n⟩
      · intro e; rw [e]; exact ⟨fun _ x => x, fun _ x => x⟩

/-- What a set of two ones is. -/
noncomputable def two (op : Bool → Bool → Bool) (s t : List UInt8) : ByteArray × Bool := if (parse s).isSome && (parse t).isSome then txt (cn fun n => op (setf s n) (setf t n)) else (⟨#[]⟩, false)

end Go.Proofs.Ytjjnckgdpdelkaa.P

-- Sums of two sets.
namespace Go.Proofs.Ytjjnckgdpdelkaa.P
open Go.RowKit Go.Proofs.YtjjnckgdpdelkaaW.PrintWords Go.Proofs.YtjjnckgdpdelkaaW.PrintLast Go.Proofs.YtjjnckgdpdelkaaW.PrintMore
set_option linter.unusedVariables false
set_option linter.unusedSimpArgs false

/-- All sums of one of each. -/
noncomputable def sumq (f g : Nat → Bool) : Nat → Bool := fun n => dec (∃ k, k ≤ n ∧ f k = true ∧ g (n - k) = true)
theorem sumq_iff {f g : Nat → Bool} {n : Nat} : sumq f g n = true ↔ ∃ i j, i + j = n ∧ f i = true ∧ g j = true := by
  unfold sumq
  rw [dec_iff]
  constructor
  · rintro ⟨k, h1, h2, h3⟩; exact ⟨k, n - k, by omega, h2, h3⟩
  · rintro ⟨i, j, h1, h2, h3⟩; exact ⟨i, by omega, h2, by rw [show n - i = j by omega]; exact h3⟩
theorem per_back {f : Nat → Bool} {m p n : Nat} (h : Per f m p) (hn : m + p ≤ n) (hf : f n = true) : f (n - p) = true := by
  have := h (n - p) (by omega)
  rw [show n - p + p = n by omega] at this
  rw [← this]; exact hf
theorem per_fwd {f : Nat → Bool} {m p n : Nat} (h : Per f m p) (hn : m ≤ n) (hf : f n = true) : f (n + p) = true := by rw [h n hn]; exact hf
theorem sumq_per {f g : Nat → Bool} {m m' L : Nat} (hf : Per f m L) (hg : Per g m' L) : Per (sumq f g) (m + m' + L) L := fun n hn => by
  rw [Bool.eq_iff_iff, sumq_iff, sumq_iff]
  constructor
  · rintro ⟨i, j, h1, h2, h3⟩
    by_cases hi : m + L ≤ i
    · exact ⟨i - L, j, by omega, per_back hf hi h2, h3⟩
    · exact ⟨i, j - L, by omega, h2, per_back hg (by omega) h3⟩
  · rintro ⟨i, j, h1, h2, h3⟩
    by_cases hi : m ≤ i
    · exact ⟨i + L, j, by omega, per_fwd hf hi h2, h3⟩
    · exact ⟨i, j + L, by omega, h2, per_fwd hg (by omega) h3⟩
/-- All sums of two different ones. -/
noncomputable def dblq (f : Nat → Bool) : Nat → Bool := fun n => dec (∃ k, k ≤ n ∧ f k = true ∧ f (n - k) = true ∧ k ≠ n - k)
theorem dblq_iff {f : Nat → Bool} {n : Nat} : dblq f n = true ↔ ∃ i j, i + j = n ∧ i < j ∧ f i = true ∧ f j = true := by
  unfold dblq
  rw [dec_iff]
  constructor
  · rintro ⟨k, h1, h2, h3, h4⟩
    rcases Nat.lt_or_ge k (n - k) with h | h
    · exact ⟨k, n - k, by omega, h, h2, h3⟩
    · exact ⟨n - k, k, by omega, by omega, h3, h2⟩
  · rintro ⟨i, j, h1, h2, h3, h4⟩
    exact ⟨i, by omega, h3, by rw [show n - i = j by omega]; exact h4, by omega⟩
theorem dblq_iff' {f : Nat → Bool} {n : Nat} : dblq f n = dec (∃ k, 2 * k < n ∧ f k = true ∧ f (n - k) = true) := by
  rw [Bool.eq_iff_iff, dblq_iff, dec_iff]
  constructor
  · rintro ⟨i, j, h1, h2, h3, h4⟩; exact ⟨i, by omega, h3, by rw [show n - i = j by omega]; exact h4⟩
  · rintro ⟨k, h1, h2, h3⟩; exact ⟨k, n - k, by omega, by omega, h2, h3⟩
theorem dblq_per {f : Nat → Bool} {m L : Nat} (hf : Per f m L) : Per (dblq f) (2 * m + 2 * L) L := fun n hn => by
  rw [Bool.eq_iff_iff, dblq_iff, dblq_iff]
  constructor
  · rintro ⟨i, j, h1, h2, h3, h4⟩
    have h5 := per_back hf (show m + L ≤ j by omega) h4
    rcases Nat.lt_trichotomy i (j - L) with h | h | h
    · exact ⟨i, j - L, by omega, h, h3, h5⟩
    · rcases Nat.eq_zero_or_pos L with hL | hL
      · exact ⟨i, j, by omega, h2, h3, h4⟩
      · exact ⟨i - L, j, by omega, by omega, per_back hf (by omega) h3, h4⟩
    · exact ⟨j - L, i, by omega, h, h5, h3⟩
  · rintro ⟨i, j, h1, h2, h3, h4⟩
    exact ⟨i, j + L, by omega, by omega, h3, per_fwd hf (by omega) h4⟩
theorem sumq_comm (f g : Nat → Bool) : sumq f g = sumq g f := by
  funext n
  rw [Bool.eq_iff_iff, sumq_iff, sumq_iff]
  constructor
  · rintro ⟨i, j, h1, h2, h3⟩; exact ⟨j, i, by omega, h3, h2⟩
  · rintro ⟨i, j, h1, h2, h3⟩; exact ⟨j, i, by omega, h3, h2⟩
theorem sumq_or (f g h : Nat → Bool) : sumq (fun n => f n || g n) h = fun n => sumq f h n || sumq g h n := by
  funext n
  rw [Bool.eq_iff_iff, Bool.or_eq_true, sumq_iff, sumq_iff, sumq_iff]
  constructor
  · rintro ⟨i, j, h1, h2, h3⟩
    rcases Bool.or_eq_true_iff.1 h2 with h2 | h2
    · exact .inl ⟨i, j, h1, h2, h3⟩
    · exact .inr ⟨i, j, h1, h2, h3⟩
  · rintro (⟨i, j, h1, h2, h3⟩ | ⟨i, j, h1, h2, h3⟩)
    · exact ⟨i, j, h1, by rw [h2]; rfl, h3⟩
    · exact ⟨i, j, h1, by rw [h2, Bool.or_true], h3⟩
/-- A tidy small set. -/
def Small (t : List Bool × List Bool) : Prop := t.1.length ≤ 8 ∧ t.2.length ≤ 8
noncomputable def smallB (s : List UInt8) : Bool := (parse s).isSome && dec (Small (cn (setf s)))
theorem smallB_ok {s : List UInt8} (h : smallB s = true) : ∃ a b, parse s = some (a, b) ∧ setf s = hasB a b ∧ (cn (setf s)).1.length ≤ 8 ∧ (cn (setf s)).2.length ≤ 8 ∧ 0 < (cn (setf s)).2.length ∧ Per (setf s) (cn (setf s)).1.length (cn (setf s)).2.length := by
  unfold smallB at h
  rw [Bool.and_eq_true, dec_iff] at h
  obtain ⟨⟨a, b⟩, hp⟩ := Option.isSome_iff_exists.1 h.1
  obtain ⟨p1, p2⟩ := parse_per hp
  have hset := setf_some hp
  have hper := hasB_per (cn (setf s)).1 (cn (setf s)).2
  have hs := cn_spec p1 p2
  rw [← hset] at hs
  rw [hs.2.1] at hper
  exact ⟨a, b, hp, hset, h.2.1, h.2.2, List.length_pos_iff.2 hs.1.1.1, hper⟩
/-- What SumOf answers. -/
noncomputable def smr (s t : List UInt8) : ByteArray × Bool := if smallB s && smallB t then txt (cn (sumq (setf s) (setf t))) else (⟨#[]⟩, false)
/-- What SumDouble answers. -/
noncomputable def dbr (s : List UInt8) : ByteArray × Bool := if smallB s then txt (cn (dblq (setf s))) else (⟨#[]⟩, false)
theorem lcm_le8 {m n : Nat} (h0 : 0 < m) (h0' : 0 < n) (hm : m ≤ 8) (hn : n ≤ 8) : Nat.lcm m n ≤ 56 := by
  have hd := Nat.gcd_dvd_left m n
  rcases Nat.lt_or_ge (m * n) 57 with h | h
  · have : Nat.lcm m n ≤ m * n := by unfold Nat.lcm; exact Nat.div_le_self _ _
    omega
  · have : m = 8 ∧ n = 8 := by
      constructor
      · refine Classical.byContradiction fun hne => ?_
        have : m * n ≤ 7 * 8 := Nat.mul_le_mul (by omega) hn
        omega
      · refine Classical.byContradiction fun hne => ?_
        have : m * n ≤ 8 * 7 := Nat.mul_le_mul hm (by omega)
        omega
    rw [this.1, this.2]; decide
end Go.Proofs.Ytjjnckgdpdelkaa.P

-- The star of a set: from some number on it comes again by its least number.
namespace Go.Proofs.Ytjjnckgdpdelkaa.P
open Go.RowKit Go.Proofs.YtjjnckgdpdelkaaW.PrintWords Go.Proofs.YtjjnckgdpdelkaaW.PrintLast Go.Proofs.YtjjnckgdpdelkaaW.PrintMore
set_option linter.unusedVariables false
set_option linter.unusedSimpArgs false

/-- A list of numbers above 0 of a set. -/
def Parts (f : Nat → Bool) (l : List Nat) : Prop := ∀ a, a ∈ l → 0 < a ∧ f a = true
def St (f : Nat → Bool) (n : Nat) : Prop := ∃ l, Parts f l ∧ l.sum = n
theorem St.zero (f : Nat → Bool) : St f 0 := ⟨[], fun a h => by simp at h, rfl⟩
theorem St.of {f : Nat → Bool} {a : Nat} (h0 : 0 < a) (h : f a = true) : St f a := ⟨[a], fun b hb => by rw [List.mem_singleton.1 hb]; exact ⟨h0, h⟩, by simp⟩
theorem St.add {f : Nat → Bool} {n m : Nat} (h : St f n) (h' : St f m) : St f (n + m) := by
  obtain ⟨l, h1, rfl⟩ := h
  obtain ⟨r, h2, rfl⟩ := h'
  exact ⟨l ++ r, fun a ha => (List.mem_append.1 ha).elim (h1 a) (h2 a), by simp⟩
theorem St.mul {f : Nat → Bool} {n : Nat} (h : St f n) : ∀ k, St f (k * n)
  | 0 => by rw [Nat.zero_mul]; exact St.zero f
  | k + 1 => by rw [Nat.succ_mul]; exact (St.mul h k).add h
theorem parts_cons {f : Nat → Bool} {a : Nat} {l : List Nat} : Parts f (a :: l) ↔ (0 < a ∧ f a = true) ∧ Parts f l := by
  constructor
  · intro h; exact ⟨h a (by simp), fun b hb => h b (by simp [hb])⟩
  · rintro ⟨h1, h2⟩ b hb
    rcases List.mem_cons.1 hb with rfl | hb
    · exact h1
    · exact h2 b hb
theorem St.step {f : Nat → Bool} {n : Nat} (h : St f n) (hn : 0 < n) : ∃ k, 1 ≤ k ∧ k ≤ n ∧ f k = true ∧ St f (n - k) := by
  obtain ⟨l, h1, rfl⟩ := h
  cases l with
  | nil => simp at hn
  | cons a l =>
    obtain ⟨⟨h2, h3⟩, h4⟩ := parts_cons.1 h1
    rw [List.sum_cons]
    exact ⟨a, h2, by omega, h3, l, h4, by omega⟩
theorem St.iff {f : Nat → Bool} {n : Nat} (hn : 0 < n) : St f n ↔ ∃ k, 1 ≤ k ∧ k ≤ n ∧ f k = true ∧ St f (n - k) := by
  constructor
  · intro h; exact h.step hn
  · rintro ⟨k, h1, h2, h3, h4⟩
    have := (St.of (by omega) h3).add h4
    rwa [show k + (n - k) = n by omega] at this
/-- Whether a number is in the star. -/
noncomputable def stq (f : Nat → Bool) : Nat → Bool := fun n => dec (St f n)
theorem stq_iff {f : Nat → Bool} {n : Nat} : stq f n = true ↔ St f n := dec_iff
theorem pigeon : ∀ (d : Nat) (g : Nat → Nat), (∀ i, i ≤ d → g i < d) → ∃ i j, i < j ∧ j ≤ d ∧ g i = g j := by
  intro d
  induction d with
  | zero => intro g h; have := h 0 (Nat.le_refl _); omega
  | succ d ih =>
    intro g h
    by_cases hx : ∃ i, i ≤ d ∧ g i = g (d + 1)
    · obtain ⟨i, h1, h2⟩ := hx
      exact ⟨i, d + 1, by omega, Nat.le_refl _, h2⟩
    · have hne : ∀ i, i ≤ d → g i ≠ g (d + 1) := fun i hi e => hx ⟨i, hi, e⟩
      obtain ⟨i, j, h1, h2, h3⟩ := ih (fun i => if g i = d then g (d + 1) else g i) (fun i hi => by
        have a := h i (by omega)
        have b := h (d + 1) (Nat.le_refl _)
        have c := hne i hi
        show (if g i = d then g (d + 1) else g i) < d
        split <;> omega)
      refine ⟨i, j, h1, by omega, ?_⟩
      have a := hne i (by omega)
      have b := hne j h2
      by_cases c1 : g i = d
      · by_cases c2 : g j = d
        · rw [c1, c2]
        · simp only [if_pos c1, if_neg c2] at h3; omega
      · by_cases c2 : g j = d
        · simp only [if_neg c1, if_pos c2] at h3; omega
        · simp only [if_neg c1, if_neg c2] at h3; exact h3
theorem sum_take_drop (l : List Nat) (i : Nat) : (l.take i).sum + (l.drop i).sum = l.sum := by
  rw [← List.sum_append, List.take_append_drop]
theorem sum_pos {f : Nat → Bool} {l : List Nat} (h : Parts f l) (hn : l ≠ []) : 0 < l.sum := by
  cases l with
  | nil => exact absurd rfl hn
  | cons a l => have := (parts_cons.1 h).1.1; rw [List.sum_cons]; omega
/-- Of a long list a piece is a multiple of q. -/
theorem parts_cut {f : Nat → Bool} {q : Nat} (hq : 0 < q) {l : List Nat} (h : Parts f l) (hl : q + 1 ≤ l.length) : ∃ e, 0 < e ∧ q * e < l.sum ∧ St f (l.sum - q * e) := by
  obtain ⟨i, j, h1, h2, h3⟩ := pigeon q (fun i => (l.take i).sum % q) (fun i _ => Nat.mod_lt _ hq)
  have h3 : (l.take i).sum % q = (l.take j).sum % q := h3
  have hij : (l.take j).sum = (l.take i).sum + ((l.drop i).take (j - i)).sum := by
    rw [← List.sum_append]
    congr 1
    have e := List.take_append_drop i (l.take j)
    rw [List.take_take, Nat.min_eq_left (by omega), List.drop_take] at e
    exact e.symm
  have hc : ((l.drop i).take (j - i)).sum % q = 0 := by
    rw [hij, Nat.add_mod] at h3
    have a := Nat.mod_lt ((l.take i).sum) hq
    have b := Nat.mod_lt (((l.drop i).take (j - i)).sum) hq
    rcases Nat.lt_or_ge ((l.take i).sum % q + ((l.drop i).take (j - i)).sum % q) q with c | c
    · rw [Nat.mod_eq_of_lt c] at h3; omega
    · have : ((l.take i).sum % q + ((l.drop i).take (j - i)).sum % q) % q = (l.take i).sum % q + ((l.drop i).take (j - i)).sum % q - q := by
        rw [Nat.mod_eq_sub_mod c, Nat.mod_eq_of_lt (by omega)]
      rw [this] at h3; omega
  have hsub : ∀ {r : List Nat}, (∀ a, a ∈ r → a ∈ l) → Parts f r := fun hr a ha => h a (hr a ha)
  have p1 : Parts f (l.take i) := hsub fun a ha => List.mem_of_mem_take ha
  have p2 : Parts f ((l.drop i).take (j - i)) := hsub fun a ha => List.mem_of_mem_drop (List.mem_of_mem_take ha)
  have p3 : Parts f (l.drop j) := hsub fun a ha => List.mem_of_mem_drop ha
  have hpos : 0 < ((l.drop i).take (j - i)).sum := sum_pos p2 (by
    intro e
    have := congrArg List.length e
    rw [List.length_take, List.length_drop, List.length_nil] at this
    omega)
  have hpos3 : 0 < (l.drop j).sum := sum_pos p3 (by
    intro e
    have := congrArg List.length e
    rw [List.length_drop, List.length_nil] at this
    omega)
  have htot := sum_take_drop l j
  obtain ⟨e, he⟩ := Nat.dvd_of_mod_eq_zero hc
  have hst : St f ((l.take i).sum + (l.drop j).sum) := St.add ⟨_, p1, rfl⟩ ⟨_, p3, rfl⟩
  refine ⟨e, ?_, by omega, ?_⟩
  · rcases Nat.eq_zero_or_pos e with rfl | x
    · rw [Nat.mul_zero] at he; omega
    · exact x
  · rw [show l.sum - q * e = (l.take i).sum + (l.drop j).sum by omega]
    exact hst
theorem sum_bound {l : List Nat} {G : Nat} (h : ∀ a, a ∈ l → a ≤ G) : l.sum ≤ l.length * G := by
  induction l with
  | nil => simp
  | cons a l ih =>
    have := ih fun b hb => h b (by simp [hb])
    have := h a (by simp)
    rw [List.sum_cons, List.length_cons, Nat.succ_mul]; omega
/-- If what is above 0 goes on by q, and a great part is another one and q times some number: behind some number one may take q away. -/
theorem St.back {f : Nat → Bool} {q G : Nat} (hq : 0 < q) (h1 : ∀ n, 0 < n → St f n → St f (n + q)) (h2 : ∀ a, G < a → f a = true → ∃ a' e, 0 < a' ∧ 0 < e ∧ a' + q * e = a ∧ f a' = true) {n : Nat} (hn : q * G < n) (h : St f n) : St f (n - q) := by
  have up : ∀ e m, 0 < m → St f m → St f (m + q * e) := by
    intro e
    induction e with
    | zero => intro m _ hs; rw [Nat.mul_zero, Nat.add_zero]; exact hs
    | succ e ih =>
      intro m hm hs
      have := h1 _ (by omega) (ih m hm hs)
      rwa [Nat.add_assoc, ← Nat.mul_succ] at this
  obtain ⟨l, hl, rfl⟩ := h
  by_cases hlen : q + 1 ≤ l.length
  · obtain ⟨e, he, hlt, hs⟩ := parts_cut hq hl hlen
    have := up (e - 1) _ (by omega) hs
    have he2 : q * e = q * (e - 1) + q := by rw [← Nat.mul_succ]; congr 1; omega
    rwa [show l.sum - q * e + q * (e - 1) = l.sum - q by omega] at this
  · by_cases hall : ∀ a, a ∈ l → a ≤ G
    · have b1 := sum_bound hall
      have b2 : l.length * G ≤ q * G := Nat.mul_le_mul_right G (by omega)
      omega
    · obtain ⟨a, ha, hG⟩ : ∃ a, a ∈ l ∧ G < a := by
        refine Classical.byContradiction fun hno => hall fun a ha => ?_
        rcases Nat.lt_or_ge G a with x | x
        · exact absurd ⟨a, ha, x⟩ hno
        · exact x
      obtain ⟨a', e, h3, h4, h5, h6⟩ := h2 a hG (hl a ha).2
      obtain ⟨x, y, rfl⟩ := List.append_of_mem ha
      have hx : Parts f (x ++ a' :: y) := by
        intro b hb
        rcases List.mem_append.1 hb with c | c
        · exact hl b (List.mem_append.2 (.inl c))
        · rcases List.mem_cons.1 c with rfl | c
          · exact ⟨h3, h6⟩
          · exact hl b (List.mem_append.2 (.inr (List.mem_cons.2 (.inr c))))
      have hs : St f (x ++ a' :: y).sum := ⟨_, hx, rfl⟩
      have e1 : (x ++ a :: y).sum = x.sum + (a + y.sum) := by rw [List.sum_append, List.sum_cons]
      have e2 : (x ++ a' :: y).sum = x.sum + (a' + y.sum) := by rw [List.sum_append, List.sum_cons]
      rw [e2] at hs
      have := up (e - 1) _ (by omega) hs
      have he2 : q * e = q * (e - 1) + q := by rw [← Nat.mul_succ]; congr 1; omega
      rw [e1]
      rwa [show x.sum + (a' + y.sum) + q * (e - 1) = x.sum + (a + y.sum) - q by omega] at this
theorem per_sub {f : Nat → Bool} {m p : Nat} (h : Per f m p) : ∀ k a, m + k * p ≤ a → f a = true → f (a - k * p) = true
  | 0, a, _, hf => by rw [Nat.zero_mul, Nat.sub_zero]; exact hf
  | k + 1, a, ha, hf => by
    rw [Nat.succ_mul] at ha ⊢
    have := per_sub h k a (by omega) hf
    have := per_back h (by omega) this
    rwa [Nat.sub_sub] at this
/-- THE STAR COMES AGAIN by the least number of a small set. -/
theorem stq_per {f : Nat → Bool} {m p d : Nat} (hm : m ≤ 8) (hp : 0 < p) (hp8 : p ≤ 8) (hper : Per f m p) (hd : 0 < d) (hfd : f d = true) (hmin : ∀ k, 0 < k → k < d → f k = false) : Per (stq f) 584 d := by
  have hSd : St f d := St.of hd hfd
  by_cases h8 : d ≤ 8
  · have hpd : p * d ≤ 8 * 8 := Nat.mul_le_mul hp8 h8
    have hq := fun n (hn : 584 < n) (h : St f n) => St.back (G := m + p * d) hd (fun n _ h => h.add hSd) (fun a ha hf => by
      have hc : d * p = p * d := Nat.mul_comm _ _
      have := per_sub hper d a (by omega) hf
      exact ⟨a - d * p, p, by omega, hp, by omega, this⟩) (n := n) (by
        have : d * (m + p * d) ≤ 8 * (8 + 64) := Nat.mul_le_mul h8 (by omega)
        omega) h
    intro n hn
    rw [Bool.eq_iff_iff, stq_iff, stq_iff]
    constructor
    · intro h
      have := hq _ (by omega) h
      rwa [Nat.add_sub_cancel] at this
    · intro h; exact h.add hSd
  · have hge : ∀ a, 0 < a → f a = true → d ≤ a := fun a h0 ha => by
      rcases Nat.lt_or_ge a d with x | x
      · rw [hmin a h0 x] at ha; cases ha
      · exact x
    have hup : ∀ n, 0 < n → St f n → St f (n + p) := by
      intro n hn h
      obtain ⟨k, h1, h2, h3, h4⟩ := h.step hn
      have h5 := per_fwd hper (show m ≤ k by have := hge k (by omega) h3; omega) h3
      have := (St.of (show 0 < k + p by omega) h5).add h4
      rwa [show k + p + (n - k) = n + p by omega] at this
    have hq := fun n (hn : 128 < n) (h : St f n) => St.back (G := m + p) hp hup (fun a ha hf => by
      have h1 := hge a (by omega) hf
      exact ⟨a - p, 1, by omega, by omega, by rw [Nat.mul_one]; omega, per_back hper (by omega) hf⟩) (n := n) (by
        have : p * (m + p) ≤ 8 * 16 := Nat.mul_le_mul hp8 (by omega)
        omega) h
    have hper2 : Per (stq f) 584 p := by
      intro n hn
      rw [Bool.eq_iff_iff, stq_iff, stq_iff]
      constructor
      · intro h
        have := hq _ (by omega) h
        rwa [Nat.add_sub_cancel] at this
      · intro h; exact hup n (by omega) h
    intro n hn
    rw [Bool.eq_iff_iff]
    constructor
    · intro h
      rw [stq_iff] at h
      have h2 := (h.add (hSd.mul (p - 1)))
      have h3 := hper2.mul d n hn
      rw [← stq_iff] at h2
      have e : n + d + (p - 1) * d = n + d * p := by
        have : p * d = (p - 1) * d + d := by rw [← Nat.succ_mul]; congr 1; omega
        rw [Nat.mul_comm d p]; omega
      rw [e, h3] at h2; exact h2
    · intro h
      rw [stq_iff] at h ⊢
      exact h.add hSd
theorem stq_none {f : Nat → Bool} (h : ∀ k, 0 < k → f k = false) : stq f = fun n => decide (n = 0) := by
  funext n
  rcases Nat.eq_zero_or_pos n with rfl | hn
  · rw [stq_iff.2 (St.zero f)]; rfl
  · rw [decide_eq_false (by omega)]
    cases hx : stq f n with
    | false => rfl
    | true =>
      obtain ⟨k, h1, _, h3, _⟩ := (stq_iff.1 hx).step hn
      rw [h k (by omega)] at h3; cases h3
theorem stq_idem (f : Nat → Bool) : stq (stq f) = stq f := by
  funext n
  rw [Bool.eq_iff_iff, stq_iff, stq_iff]
  constructor
  · rintro ⟨l, h1, rfl⟩
    induction l with
    | nil => exact St.zero f
    | cons a l ih =>
      obtain ⟨⟨_, h2⟩, h3⟩ := parts_cons.1 h1
      rw [List.sum_cons]
      exact (stq_iff.1 h2).add (ih h3)
  · intro h
    rcases Nat.eq_zero_or_pos n with rfl | hn
    · exact St.zero _
    · exact St.of hn (stq_iff.2 h)
theorem stq_or (f g : Nat → Bool) : stq (fun n => f n || g n) = sumq (stq f) (stq g) := by
  funext n
  rw [Bool.eq_iff_iff, stq_iff, sumq_iff]
  constructor
  · rintro ⟨l, h1, rfl⟩
    induction l with
    | nil => exact ⟨0, 0, rfl, stq_iff.2 (St.zero f), stq_iff.2 (St.zero g)⟩
    | cons a l ih =>
      obtain ⟨⟨h0, h2⟩, h3⟩ := parts_cons.1 h1
      obtain ⟨i, j, e, hi, hj⟩ := ih h3
      rw [List.sum_cons]
      rcases Bool.or_eq_true_iff.1 h2 with h2 | h2
      · exact ⟨a + i, j, by omega, stq_iff.2 ((St.of h0 h2).add (stq_iff.1 hi)), hj⟩
      · exact ⟨i, a + j, by omega, hi, stq_iff.2 ((St.of h0 h2).add (stq_iff.1 hj))⟩
  · rintro ⟨i, j, rfl, hi, hj⟩
    have mono : ∀ (u v : Nat → Bool) m, (∀ k, u k = true → v k = true) → St u m → St v m := fun u v m h hs => by
      obtain ⟨l, h1, rfl⟩ := hs
      exact ⟨l, fun a ha => ⟨(h1 a ha).1, h a (h1 a ha).2⟩, rfl⟩
    exact (mono f _ i (fun k h => by rw [h]; rfl) (stq_iff.1 hi)).add (mono g _ j (fun k h => by rw [h, Bool.or_true]) (stq_iff.1 hj))
end Go.Proofs.Ytjjnckgdpdelkaa.P

-- Terms over one letter: their texts, how they are read, and what they tell.
namespace Go.Proofs.Ytjjnckgdpdelkaa.P
open Go.RowKit Go.Proofs.YtjjnckgdpdelkaaW.PrintWords Go.Proofs.YtjjnckgdpdelkaaW.PrintLast Go.Proofs.YtjjnckgdpdelkaaW.PrintMore
set_option linter.unusedVariables false
set_option linter.unusedSimpArgs false

/-- A term: a sign alone, a sign and a term, or two terms and a sign between. -/
inductive Tm where
  | leaf (c : UInt8) : Tm
  | one (c : UInt8) (t : Tm) : Tm
  | two (c : UInt8) (a b : Tm) : Tm
def isL (c : UInt8) : Bool := c == 48 || (c == 49 || c == 97)
def isO (c : UInt8) : Bool := c == 42 || (decide (50 ≤ c.toNat) && decide (c.toNat ≤ 53))
def isT (c : UInt8) : Bool := c == 43 || (c == 46 || c == 38)
def Tm.ok : Tm → Prop
  | .leaf c => isL c = true
  | .one c t => isO c = true ∧ t.ok
  | .two c a b => isT c = true ∧ a.ok ∧ b.ok
/-- The text of a term. -/
def Tm.txt : Tm → List UInt8
  | .leaf c => [c]
  | .one c t => c :: t.txt
  | .two c a b => 40 :: (a.txt ++ c :: (b.txt ++ [41]))
/-- A term from the beginning of a text, and what is left. -/
def prs : Nat → List UInt8 → Option (Tm × List UInt8)
  | 0, _ => none
  | _ + 1, [] => none
  | k + 1, c :: s =>
    if isL c = true then some (.leaf c, s)
    else if isO c = true then (match prs k s with | none => none | some (t, r) => some (.one c t, r))
    else if c = 40 then (match prs k s with
      | none => none
      | some (_, []) => none
      | some (a, d :: r1) => if isT d = true then (match prs k r1 with
          | none => none
          | some (_, []) => none
          | some (b, e :: r3) => if e = 41 then some (.two d a b, r3) else none) else none)
    else none
theorem isO_notL {c : UInt8} (h : isO c = true) : isL c = false := by
  unfold isO at h
  rw [Bool.or_eq_true, Bool.and_eq_true, beq_iff_eq, decide_eq_true_iff, decide_eq_true_iff] at h
  have hc : c.toNat = 42 ∨ (50 ≤ c.toNat ∧ c.toNat ≤ 53) := by
    rcases h with rfl | h
    · exact .inl rfl
    · exact .inr h
  have n1 : c ≠ 48 := fun e => by subst e; simp at hc
  have n2 : c ≠ 49 := fun e => by subst e; simp at hc
  have n3 : c ≠ 97 := fun e => by subst e; simp at hc
  unfold isL
  simp [n1, n2, n3]
theorem prs_spec : ∀ (k : Nat) (s : List UInt8) {t : Tm} {r : List UInt8}, prs k s = some (t, r) → t.ok ∧ s = t.txt ++ r
  | 0, s, t, r, h => by cases h
  | k + 1, [], t, r, h => by cases h
  | k + 1, c :: s, t, r, h => by
    unfold prs at h
    split at h
    · rename_i hL
      simp only [Option.some.injEq, Prod.mk.injEq] at h
      obtain ⟨rfl, rfl⟩ := h
      exact ⟨hL, rfl⟩
    · split at h
      · rename_i hL hO
        split at h
        · cases h
        · rename_i t' r' hp
          simp only [Option.some.injEq, Prod.mk.injEq] at h
          obtain ⟨rfl, rfl⟩ := h
          obtain ⟨h1, h2⟩ := prs_spec k s hp
          exact ⟨⟨hO, h1⟩, by rw [h2]; rfl⟩
      · split at h
        · rename_i h40
          split at h
          · cases h
          · cases h
          · rename_i a d r1 hp
            split at h
            · rename_i hT
              split at h
              · cases h
              · cases h
              · rename_i b e r3 hq
                split at h
                · rename_i h41
                  simp only [Option.some.injEq, Prod.mk.injEq] at h
                  obtain ⟨rfl, rfl⟩ := h
                  obtain ⟨h1, h2⟩ := prs_spec k s hp
                  obtain ⟨h3, h4⟩ := prs_spec k r1 hq
                  refine ⟨⟨hT, h1, h3⟩, ?_⟩
                  rw [h40, h2, h4, h41]
                  show _ = (40 :: (a.txt ++ d :: (b.txt ++ [41]))) ++ _
                  simp
                · cases h
            · cases h
        · cases h
theorem txt_pos (t : Tm) : 0 < t.txt.length := by cases t <;> simp [Tm.txt]
theorem prs_len {k : Nat} {s : List UInt8} {t : Tm} {r : List UInt8} (h : prs k s = some (t, r)) : r.length < s.length := by
  have := (prs_spec k s h).2
  have hp := txt_pos t
  rw [this, List.length_append]; omega
theorem prs_txt : ∀ (t : Tm) (k : Nat) (r : List UInt8), t.ok → t.txt.length ≤ k → prs k (t.txt ++ r) = some (t, r)
  | .leaf c, k, r, h, hk => by
    obtain ⟨k, rfl⟩ : ∃ j, k = j + 1 := ⟨k - 1, by simp [Tm.txt] at hk; omega⟩
    show prs (k + 1) (c :: r) = _
    unfold prs
    rw [if_pos (show isL c = true from h)]
  | .one c t, k, r, h, hk => by
    obtain ⟨k, rfl⟩ : ∃ j, k = j + 1 := ⟨k - 1, by simp [Tm.txt] at hk; omega⟩
    have hO : isO c = true := h.1
    have ih := prs_txt t k r h.2 (by simp [Tm.txt] at hk; omega)
    show prs (k + 1) (c :: (t.txt ++ r)) = _
    unfold prs
    rw [if_neg (by rw [isO_notL hO]; decide), if_pos hO, ih]
  | .two c a b, k, r, h, hk => by
    obtain ⟨k, rfl⟩ : ∃ j, k = j + 1 := ⟨k - 1, by simp [Tm.txt] at hk; omega⟩
    have hT : isT c = true := h.1
    have hl : a.txt.length + b.txt.length + 2 ≤ k := by simp [Tm.txt] at hk; omega
    have ih1 := prs_txt a k (c :: (b.txt ++ (41 :: r))) h.2.1 (by omega)
    have ih2 := prs_txt b k (41 :: r) h.2.2 (by omega)
    have e : (Tm.two c a b).txt ++ r = 40 :: (a.txt ++ (c :: (b.txt ++ (41 :: r)))) := by simp [Tm.txt]
    rw [e]
    unfold prs
    rw [if_neg (by decide), if_neg (by decide), if_pos rfl, ih1]
    dsimp only
    rw [if_pos hT, ih2]
    dsimp only
    rw [if_pos rfl]
/-- The term of a text, if it is one. -/
def trmO : Option (Tm × List UInt8) → Option Tm
  | some (t, []) => some t
  | some (_, _ :: _) => none
  | none => none
def trm (s : List UInt8) : Option Tm := if s.length ≤ 60 then trmO (prs (s.length + 1) s) else none
theorem trm_some {s : List UInt8} {t : Tm} (h : trm s = some t) : s.length ≤ 60 ∧ t.ok ∧ s = t.txt ∧ prs (s.length + 1) s = some (t, []) := by
  unfold trm at h
  split at h
  · rename_i hl
    cases hp : prs (s.length + 1) s with
    | none => rw [hp] at h; cases h
    | some x =>
      obtain ⟨t', r⟩ := x
      cases r with
      | cons d r => rw [hp] at h; cases h
      | nil =>
        rw [hp] at h
        have e : t' = t := by simpa [trmO] using h
        subst e
        obtain ⟨h1, h2⟩ := prs_spec _ _ hp
        exact ⟨hl, h1, by rw [List.append_nil] at h2; exact h2, by first | exact hp | rfl⟩
  · cases h
theorem trm_txt {t : Tm} (h : t.ok) (hl : t.txt.length ≤ 60) : trm t.txt = some t := by
  have := prs_txt t (t.txt.length + 1) [] h (by omega)
  rw [List.append_nil] at this
  unfold trm
  rw [if_pos hl, this]; rfl
/-- k of a set together. -/
noncomputable def mulq (f : Nat → Bool) : Nat → Nat → Bool
  | 0 => fun n => decide (n = 0)
  | k + 1 => sumq (mulq f k) f
/-- What a term tells. -/
noncomputable def tsem : Tm → Nat → Bool
  | .leaf c => fun n => (c == 49 && decide (n = 0)) || (c == 97 && decide (n = 1))
  | .one c t => if c = 42 then stq (tsem t) else mulq (tsem t) (c.toNat - 48)
  | .two c a b => if c = 46 then sumq (tsem a) (tsem b) else if c = 43 then (fun n => tsem a n || tsem b n) else (fun n => tsem a n && tsem b n)
theorem sumq_congr {f g f' g' : Nat → Bool} {N : Nat} (hf : ∀ n, n ≤ N → f n = f' n) (hg : ∀ n, n ≤ N → g n = g' n) {n : Nat} (hn : n ≤ N) : sumq f g n = sumq f' g' n := by
  rw [Bool.eq_iff_iff, sumq_iff, sumq_iff]
  constructor
  · rintro ⟨i, j, h1, h2, h3⟩; exact ⟨i, j, h1, by rw [← hf i (by omega)]; exact h2, by rw [← hg j (by omega)]; exact h3⟩
  · rintro ⟨i, j, h1, h2, h3⟩; exact ⟨i, j, h1, by rw [hf i (by omega)]; exact h2, by rw [hg j (by omega)]; exact h3⟩
theorem sumq_zero (f : Nat → Bool) : sumq (fun n => decide (n = 0)) f = f := by
  funext n
  rw [Bool.eq_iff_iff, sumq_iff]
  constructor
  · rintro ⟨i, j, h1, h2, h3⟩
    rw [decide_eq_true_iff] at h2
    rw [show n = j by omega]; exact h3
  · intro h; exact ⟨0, n, by omega, rfl, h⟩
theorem mulq_one (f : Nat → Bool) : mulq f 1 = f := sumq_zero f
end Go.Proofs.Ytjjnckgdpdelkaa.P

-- Terms as the reference reads them: a term, and the place behind it if there is one.
namespace Go.Proofs.Ytjjnckgdpdelkaa.P
open Go.RowKit Go.Proofs.YtjjnckgdpdelkaaW.PrintWords Go.Proofs.YtjjnckgdpdelkaaW.PrintLast Go.Proofs.YtjjnckgdpdelkaaW.PrintMore
set_option linter.unusedVariables false
set_option linter.unusedSimpArgs false

def no7 : Tm × Option (List UInt8) := (.leaf 48, none)
def two7 (a : Tm) (d : UInt8) : Tm × Option (List UInt8) → Tm × Option (List UInt8)
  | (_, none) => no7
  | (_, some []) => no7
  | (b, some (e :: r3)) => if e = 41 then (.two d a b, some r3) else no7
def one7 (P : List UInt8 → Tm × Option (List UInt8)) : Tm × Option (List UInt8) → Tm × Option (List UInt8)
  | (_, none) => no7
  | (_, some []) => no7
  | (a, some (d :: r1)) => if isT d = true then two7 a d (P r1) else no7
/-- What the reference reads. -/
def rd7 : Nat → List UInt8 → Tm × Option (List UInt8)
  | 0, _ => no7
  | _ + 1, [] => no7
  | k + 1, c :: s =>
    if isL c = true then (.leaf c, some s)
    else if isO c = true then (.one c (rd7 k s).1, (rd7 k s).2)
    else if c = 40 then one7 (rd7 k) (rd7 k s)
    else no7
/-- Both read the same. -/
theorem rd7_prs : ∀ (k : Nat) (s : List UInt8), (∀ t r, prs k s = some (t, r) → rd7 k s = (t, some r)) ∧ (prs k s = none → (rd7 k s).2 = none)
  | 0, s => ⟨fun t r h => (by cases h), fun _ => rfl⟩
  | k + 1, [] => ⟨fun t r h => (by cases h), fun _ => rfl⟩
  | k + 1, c :: s => by
    obtain ⟨i1, i2⟩ := rd7_prs k s
    unfold prs rd7
    by_cases h1 : isL c = true
    · rw [if_pos h1, if_pos h1]
      refine ⟨fun t r h => ?_, fun h => by cases h⟩
      simp only [Option.some.injEq, Prod.mk.injEq] at h
      rw [h.1, h.2]
    · rw [if_neg h1, if_neg h1]
      by_cases h2 : isO c = true
      · rw [if_pos h2, if_pos h2]
        cases hp : prs k s with
        | none => exact ⟨fun t r h => (by cases h), fun _ => i2 hp⟩
        | some x =>
          obtain ⟨t', r'⟩ := x
          rw [i1 t' r' hp]
          refine ⟨fun t r h => ?_, fun h => by cases h⟩
          simp only [Option.some.injEq, Prod.mk.injEq] at h
          rw [h.1, h.2]
      · rw [if_neg h2, if_neg h2]
        by_cases h3 : c = 40
        · rw [if_pos h3, if_pos h3]
          cases hp : prs k s with
          | none =>
            refine ⟨fun t r h => (by cases h), fun _ => ?_⟩
            have := i2 hp
            cases hx : rd7 k s with
            | mk a o => rw [hx] at this; simp only at this; rw [this]; rfl
          | some x =>
            obtain ⟨a, r'⟩ := x
            rw [i1 a r' hp]
            cases r' with
            | nil => exact ⟨fun t r h => (by cases h), fun _ => rfl⟩
            | cons d r1 =>
              obtain ⟨j1, j2⟩ := rd7_prs k r1
              show (∀ t r, (if isT d = true then _ else none) = some (t, r) → (if isT d = true then two7 a d (rd7 k r1) else no7) = (t, some r)) ∧ ((if isT d = true then _ else none) = none → (if isT d = true then two7 a d (rd7 k r1) else no7).2 = none)
              by_cases hT : isT d = true
              · rw [if_pos hT, if_pos hT]
                cases hq : prs k r1 with
                | none =>
                  refine ⟨fun t r h => (by cases h), fun _ => ?_⟩
                  have := j2 hq
                  cases hx : rd7 k r1 with
                  | mk b o => rw [hx] at this; simp only at this; rw [this]; rfl
                | some y =>
                  obtain ⟨b, r2⟩ := y
                  rw [j1 b r2 hq]
                  cases r2 with
                  | nil => exact ⟨fun t r h => (by cases h), fun _ => rfl⟩
                  | cons e r3 =>
                    show (∀ t r, (if e = 41 then some (Tm.two d a b, r3) else none) = some (t, r) → (if e = 41 then (Tm.two d a b, some r3) else no7) = (t, some r)) ∧ ((if e = 41 then some (Tm.two d a b, r3) else none) = none → (if e = 41 then (Tm.two d a b, some r3) else no7).2 = none)
                    by_cases h4 : e = 41
                    · rw [if_pos h4, if_pos h4]
                      refine ⟨fun t r h => ?_, fun h => by cases h⟩
                      simp only [Option.some.injEq, Prod.mk.injEq] at h
                      rw [h.1, h.2]
                    · rw [if_neg h4, if_neg h4]
                      exact ⟨fun t r h => (by cases h), fun _ => rfl⟩
              · rw [if_neg hT, if_neg hT]
                exact ⟨fun t r h => (by cases h), fun _ => rfl⟩
        · rw [if_neg h3, if_neg h3]
          exact ⟨fun t r h => (by cases h), fun _ => rfl⟩
theorem rd7_len {k : Nat} {s : List UInt8} {r : List UInt8} (h : (rd7 k s).2 = some r) : r.length < s.length := by
  cases hp : prs k s with
  | none => rw [(rd7_prs k s).2 hp] at h; cases h
  | some x =>
    obtain ⟨t, r'⟩ := x
    rw [(rd7_prs k s).1 t r' hp] at h
    simp only [Option.some.injEq] at h
    subst h
    exact prs_len hp
end Go.Proofs.Ytjjnckgdpdelkaa.P

-- The parts of a star; marks that are being made.
namespace Go.Proofs.Ytjjnckgdpdelkaa.P
open Go.RowKit Go.Proofs.YtjjnckgdpdelkaaW.PrintWords Go.Proofs.YtjjnckgdpdelkaaW.PrintLast Go.Proofs.YtjjnckgdpdelkaaW.PrintMore
set_option linter.unusedVariables false
set_option linter.unusedSimpArgs false

/-- Whether a number is the sum of two of the star, both above 0. -/
noncomputable def dcm (f : Nat → Bool) (n : Nat) : Bool := dec (∃ j, 1 ≤ j ∧ j < n ∧ stq f j = true ∧ stq f (n - j) = true)
/-- The parts: numbers of the set above 0 that are no such sum. -/
noncomputable def atm (f : Nat → Bool) (n : Nat) : Bool := decide (0 < n) && (f n && !dcm f n)
theorem stq_pos (f : Nat → Bool) {n : Nat} (hn : 0 < n) : stq f n = (dcm f n || f n) := by
  rw [Bool.eq_iff_iff, Bool.or_eq_true]
  constructor
  · intro h
    obtain ⟨k, h1, h2, h3, h4⟩ := (stq_iff.1 h).step hn
    rcases Nat.lt_or_ge k n with hk | hk
    · exact .inl (dec_true ⟨k, h1, hk, stq_iff.2 (St.of (by omega) h3), stq_iff.2 h4⟩)
    · rw [show k = n by omega] at h3; exact .inr h3
  · rintro (h | h)
    · obtain ⟨j, h1, h2, h3, h4⟩ := dec_iff.1 h
      have := (stq_iff.1 h3).add (stq_iff.1 h4)
      rw [show j + (n - j) = n by omega] at this
      exact stq_iff.2 this
    · exact stq_iff.2 (St.of hn h)
theorem atm_of {f : Nat → Bool} : ∀ j : Nat, 0 < j → stq f j = true → ∃ p, 1 ≤ p ∧ p ≤ j ∧ atm f p = true ∧ stq f (j - p) = true := by
  intro j
  induction j using Nat.strongRecOn with
  | ind j ih =>
    intro h0 h
    rw [stq_pos f h0] at h
    cases hd : dcm f j with
    | true =>
      obtain ⟨k, h1, h2, h3, h4⟩ := dec_iff.1 hd
      obtain ⟨p, p1, p2, p3, p4⟩ := ih k h2 h1 h3
      refine ⟨p, p1, by omega, p3, ?_⟩
      have := (stq_iff.1 p4).add (stq_iff.1 h4)
      rw [show k - p + (j - k) = j - p by omega] at this
      exact stq_iff.2 this
    | false =>
      rw [hd, Bool.false_or] at h
      refine ⟨j, h0, Nat.le_refl _, ?_, by rw [Nat.sub_self]; exact stq_iff.2 (St.zero f)⟩
      unfold atm
      rw [h, hd, decide_eq_true h0]; rfl
theorem dcm_parts {f : Nat → Bool} {n : Nat} : dcm f n = dec (∃ p, p < n ∧ atm f p = true ∧ stq f (n - p) = true) := by
  apply dec_congr
  constructor
  · rintro ⟨j, h1, h2, h3, h4⟩
    obtain ⟨p, p1, p2, p3, p4⟩ := atm_of j h1 h3
    refine ⟨p, by omega, p3, ?_⟩
    have := (stq_iff.1 p4).add (stq_iff.1 h4)
    rw [show j - p + (n - j) = n - p by omega] at this
    exact stq_iff.2 this
  · rintro ⟨p, h1, h2, h3⟩
    unfold atm at h2
    rw [Bool.and_eq_true, Bool.and_eq_true, decide_eq_true_iff] at h2
    exact ⟨p, h2.1, h1, stq_iff.2 (St.of h2.1 h2.2.1), h3⟩
/-- Marks that are made up to n, one that is being made, and others that are not. -/
def mid (q : Nat → Bool) (n : Nat) (v : Bool) (m : Nat) : List Bool := mkT q n ++ v :: List.replicate m false
theorem mid_length (q : Nat → Bool) (n : Nat) (v : Bool) (m : Nat) : (mid q n v m).length = n + 1 + m := by
  unfold mid; rw [List.length_append, mkT_length, List.length_cons, List.length_replicate]; omega
theorem mid_set (q : Nat → Bool) (n : Nat) (v u : Bool) (m : Nat) : (mid q n v m).set n u = mid q n u m := by
  unfold mid
  rw [List.set_append_right n u (by rw [mkT_length]; exact Nat.le_refl _), mkT_length, Nat.sub_self]; rfl
theorem mid_self (q : Nat → Bool) (n : Nat) (v : Bool) (m : Nat) : (mid q n v m).getD n false = v := by
  unfold mid
  rw [List.getD_eq_getElem?_getD, List.getElem?_append_right (by rw [mkT_length]; exact Nat.le_refl _), mkT_length, Nat.sub_self]; rfl
theorem mid_lt (q : Nat → Bool) {n i : Nat} (hi : i < n) (v : Bool) (m : Nat) : (mid q n v m).getD i false = q i := by
  unfold mid
  rw [List.getD_eq_getElem?_getD, List.getElem?_append_left (by rw [mkT_length]; exact hi), ← List.getD_eq_getElem?_getD, mkT_get q hi]
theorem mid_next (q : Nat → Bool) (n : Nat) (m : Nat) : mid q n (q n) (m + 1) = mid q (n + 1) false m := by
  unfold mid
  rw [mkT_succ, List.append_assoc]; rfl
theorem mid_start (q : Nat → Bool) (m : Nat) : List.replicate (m + 1) false = mid q 0 false m := by
  unfold mid mkT; rfl
theorem mid_end (q : Nat → Bool) (n : Nat) : mid q n (q n) 0 = mkT q (n + 1) := by
  unfold mid; rw [mkT_succ]; rfl
/-- The star's least number above 0, 0 if there is none. -/
def IsLeast (f : Nat → Bool) (d : Nat) : Prop := (d = 0 ∧ ∀ k, 0 < k → f k = false) ∨ (0 < d ∧ f d = true ∧ ∀ k, 0 < k → k < d → f k = false)
theorem isLeast_uniq {f : Nat → Bool} {d d' : Nat} (h : IsLeast f d) (h' : IsLeast f d') : d = d' := by
  rcases h with ⟨h1, h2⟩ | ⟨h1, h2, h3⟩
  · rcases h' with ⟨g1, g2⟩ | ⟨g1, g2, g3⟩
    · rw [h1, g1]
    · rw [h2 d' g1] at g2; cases g2
  · rcases h' with ⟨g1, g2⟩ | ⟨g1, g2, g3⟩
    · rw [g2 d h1] at h2; cases h2
    · rcases Nat.lt_trichotomy d d' with x | x | x
      · rw [g3 d h1 x] at h2; cases h2
      · exact x
      · rw [h3 d' g1 x] at g2; cases g2
theorem none_of {f : Nat → Bool} {m p : Nat} (hp : 0 < p) (h : Per f m p) (hn : ∀ k, 0 < k → k ≤ m + p → f k = false) : ∀ k, 0 < k → f k = false := fun k hk => by
  rcases Nat.lt_or_ge (m + p) k with h1 | h1
  · -- k = m + 1 + (k - m - 1), and the rest of that by p
    have h2 : Per f (m + 1) p := h.mono (by omega)
    rw [h2.mod k (by omega)]
    have := Nat.mod_lt (k - (m + 1)) hp
    exact hn _ (by omega) (by omega)
  · exact hn k hk h1
/-- The star, with 0 or not. -/
noncomputable def stz (z : Bool) (f : Nat → Bool) : Nat → Bool := fun n => if n = 0 then z else stq f n
theorem stz_true (f : Nat → Bool) : stz true f = stq f := by
  funext n
  unfold stz
  split
  · rename_i h; subst h; exact (stq_iff.2 (St.zero f)).symm
  · rfl
theorem stz_per {f : Nat → Bool} {m p d : Nat} (hm : m ≤ 8) (hp : 0 < p) (hp8 : p ≤ 8) (hper : Per f m p) (hd : IsLeast f d) (z : Bool) : Per (stz z f) 584 (max d 1) := by
  have key : Per (stq f) 584 (max d 1) := by
    rcases hd with ⟨rfl, h⟩ | ⟨h1, h2, h3⟩
    · rw [stq_none h]
      intro n hn
      show decide (n + max 0 1 = 0) = decide (n = 0)
      rw [decide_eq_false (by omega), decide_eq_false (by omega)]
    · rw [Nat.max_eq_left h1]
      exact stq_per hm hp hp8 hper h1 h2 h3
  intro n hn
  unfold stz
  rw [if_neg (by omega), if_neg (by omega)]
  exact key n hn
theorem isLeast_le {f : Nat → Bool} {m p d : Nat} (hp : 0 < p) (hper : Per f m p) (hd : IsLeast f d) : d ≤ m + p := by
  rcases hd with ⟨rfl, _⟩ | ⟨h1, h2, h3⟩
  · omega
  · refine Classical.byContradiction fun hlt => ?_
    have := none_of hp hper (fun k hk hk2 => h3 k hk (by omega)) d h1
    rw [h2] at this; cases this
/-- What StarOf (zero is in it) and StarPlus answer. -/
noncomputable def str (s : List UInt8) (z : Bool) : ByteArray × Bool := if smallB s then txt (cn (stz z (setf s))) else (⟨#[]⟩, false)
end Go.Proofs.Ytjjnckgdpdelkaa.P

-- Marks of sums and stars that are being made.
namespace Go.Proofs.Ytjjnckgdpdelkaa.P
open Go.RowKit Go.Proofs.YtjjnckgdpdelkaaW.PrintWords Go.Proofs.YtjjnckgdpdelkaaW.PrintLast Go.Proofs.YtjjnckgdpdelkaaW.PrintMore
set_option linter.unusedVariables false
set_option linter.unusedSimpArgs false

/-- Whether a number is 0, or a part less than k and one of the star. -/
noncomputable def stV (f : Nat → Bool) (n k : Nat) : Bool := dec (n = 0 ∨ ∃ j, 1 ≤ j ∧ j < k ∧ j ≤ n ∧ f j = true ∧ stq f (n - j) = true)
theorem stV_true {f : Nat → Bool} {n k : Nat} (h : stV f n k = true) : stq f n = true := by
  rcases dec_iff.1 h with rfl | ⟨j, h1, h2, h3, h4, h5⟩
  · exact stq_iff.2 (St.zero f)
  · have := (St.of (by omega) h4).add (stq_iff.1 h5)
    rw [show j + (n - j) = n by omega] at this
    exact stq_iff.2 this
theorem stV_end {f : Nat → Bool} {n k : Nat} (hk : n < k) : stV f n k = stq f n := by
  rw [Bool.eq_iff_iff]
  constructor
  · exact stV_true
  · intro h
    rcases Nat.eq_zero_or_pos n with rfl | hn
    · exact dec_true (.inl rfl)
    · obtain ⟨j, h1, h2, h3, h4⟩ := (stq_iff.1 h).step hn
      exact dec_true (.inr ⟨j, h1, by omega, h2, h3, stq_iff.2 h4⟩)
theorem stV_step {f : Nat → Bool} {n k : Nat} (h1 : 1 ≤ k) (hk : k ≤ n) : stV f n (k + 1) = (stV f n k || (f k && stq f (n - k))) := by
  rw [Bool.eq_iff_iff, Bool.or_eq_true, Bool.and_eq_true]
  constructor
  · intro h2
    rcases dec_iff.1 h2 with h3 | ⟨j, a, b, c, d, e⟩
    · omega
    · rcases Nat.lt_or_ge j k with x | x
      · exact .inl (dec_true (.inr ⟨j, a, x, c, d, e⟩))
      · rw [show j = k by omega] at d e; exact .inr ⟨d, e⟩
  · rintro (h | ⟨a, b⟩)
    · rcases dec_iff.1 h with h3 | ⟨j, a, b, c, d, e⟩
      · exact dec_true (.inl h3)
      · exact dec_true (.inr ⟨j, a, by omega, c, d, e⟩)
    · exact dec_true (.inr ⟨k, h1, by omega, hk, a, b⟩)
theorem stV_one {f : Nat → Bool} {n : Nat} : stV f n 1 = ((n : Int) == 0) := by
  rw [Bool.eq_iff_iff, beq_iff_eq]
  constructor
  · intro h
    rcases dec_iff.1 h with rfl | ⟨j, a, b, _⟩
    · rfl
    · omega
  · intro h; exact dec_true (.inl (by omega))
/-- The sums that are found when all parts less than x, and with x those less than y, are through. -/
noncomputable def qsm (f g : Nat → Bool) (x y : Nat) : Nat → Bool := fun n => dec (∃ i j, i + j = n ∧ f i = true ∧ g j = true ∧ (i < x ∨ (i = x ∧ j < y)))
theorem qsm_zero (f g : Nat → Bool) : qsm f g 0 0 = fun _ => false := by
  funext n; exact dec_false fun ⟨i, j, _, _, _, h⟩ => by omega
theorem qsm_step {f g : Nat → Bool} {x y : Nat} (hf : f x = true) (n : Nat) : qsm f g x (y + 1) n = if n = x + y then (qsm f g x y n || g y) else qsm f g x y n := by
  by_cases h : n = x + y
  · rw [if_pos h, Bool.eq_iff_iff, Bool.or_eq_true]
    constructor
    · intro h1
      obtain ⟨i, j, a, b, c, d⟩ := dec_iff.1 h1
      rcases d with d | ⟨d, e⟩
      · exact .inl (dec_true ⟨i, j, a, b, c, .inl d⟩)
      · exact .inr (by rw [show y = j by omega]; exact c)
    · rintro (h1 | h1)
      · obtain ⟨i, j, a, b, c, d⟩ := dec_iff.1 h1
        exact dec_true ⟨i, j, a, b, c, by omega⟩
      · exact dec_true ⟨x, y, h.symm, hf, h1, by omega⟩
  · rw [if_neg h]
    refine dec_congr ⟨fun ⟨i, j, a, b, c, d⟩ => ⟨i, j, a, b, c, by omega⟩, fun ⟨i, j, a, b, c, d⟩ => ⟨i, j, a, b, c, by omega⟩⟩
theorem qsm_next {f g : Nat → Bool} {x y N : Nat} (h : f x = false ∨ N ≤ x + y) {n : Nat} (hn : n < N) : qsm f g x y n = qsm f g (x + 1) 0 n := by
  refine dec_congr ⟨fun ⟨i, j, a, b, c, d⟩ => ⟨i, j, a, b, c, by omega⟩, fun ⟨i, j, a, b, c, d⟩ => ⟨i, j, a, b, c, ?_⟩⟩
  rcases d with d | d
  · rcases Nat.lt_or_ge i x with e | e
    · exact .inl e
    · have hx : i = x := by omega
      rcases h with h | h
      · rw [hx, h] at b; cases b
      · exact .inr ⟨hx, by omega⟩
  · omega
theorem qsm_end {f g : Nat → Bool} {N n : Nat} (hn : n < N) : qsm f g N 0 n = sumq f g n := by
  rw [Bool.eq_iff_iff, sumq_iff]
  constructor
  · intro h
    obtain ⟨i, j, a, b, c, d⟩ := dec_iff.1 h
    exact ⟨i, j, a, b, c⟩
  · rintro ⟨i, j, a, b, c⟩
    exact dec_true ⟨i, j, a, b, c, by omega⟩
theorem mkT_congr {f g : Nat → Bool} {N : Nat} (h : ∀ n, n < N → f n = g n) : mkT f N = mkT g N := by
  unfold mkT
  apply List.map_congr_left
  intro n hn
  exact h n (List.mem_range.1 hn)
theorem mkT_set (f : Nat → Bool) (N i : Nat) (v : Bool) : (mkT f N).set i v = mkT (fun n => if n = i then v else f n) N := by
  apply List.ext_getElem
  · rw [List.length_set, mkT_length, mkT_length]
  · intro n h1 h2
    simp only [mkT, List.getElem_set, List.getElem_map, List.getElem_range]
    by_cases e : i = n
    · rw [if_pos e, if_pos e.symm]
    · rw [if_neg e, if_neg (fun h => e h.symm)]
theorem mkT_none (N : Nat) : List.replicate N false = mkT (fun _ => false) N := by
  unfold mkT; rw [List.map_const', List.length_range]
theorem qsm_set {f g : Nat → Bool} {x y N : Nat} (hf : f x = true) : (mkT (qsm f g x y) N).set (x + y) (qsm f g x y (x + y) || g y) = mkT (qsm f g x (y + 1)) N := by
  rw [mkT_set]
  refine mkT_congr fun n _ => ?_
  rw [qsm_step hf]
  by_cases e : n = x + y
  · rw [if_pos e, if_pos e, e]
  · rw [if_neg e, if_neg e]
end Go.Proofs.Ytjjnckgdpdelkaa.P

-- impl.in: a number in a range.
namespace Go.Proofs.Ytjjnckgdpdelkaa.P
open Go.RowKit Go.Proofs.YtjjnckgdpdelkaaW.PrintWords Go.Proofs.YtjjnckgdpdelkaaW.PrintLast Go.Proofs.YtjjnckgdpdelkaaW.PrintMore
set_option linter.unusedVariables false
set_option linter.unusedSimpArgs false

theorem in_f (a b c : Int) : impl_in.f a b c = some (decide (b ≤ a ∧ a ≤ c)) := by
  unfold impl_in.f
  by_cases h : a ≥ b
  · rw [if_pos h]; congr 1; apply decide_eq_decide.2; omega
  · rw [if_neg h]; congr 1; symm; rw [decide_eq_false_iff_not]; omega

end Go.Proofs.Ytjjnckgdpdelkaa.P

-- spec.l6In: a number in a range.
namespace Go.Proofs.Ytjjnckgdpdelkaa.P
open Go.RowKit Go.Proofs.YtjjnckgdpdelkaaW.PrintWords Go.Proofs.YtjjnckgdpdelkaaW.PrintLast Go.Proofs.YtjjnckgdpdelkaaW.PrintMore
set_option linter.unusedVariables false
set_option linter.unusedSimpArgs false

theorem l6in_f (a b c : Int) : spec_l6In.f a b c = some (decide (b ≤ a ∧ a ≤ c)) := by
  unfold spec_l6In.f
  by_cases h : a ≥ b
  · rw [if_pos h]; congr 1; apply decide_eq_decide.2; omega
  · rw [if_neg h]; congr 1; symm; rw [decide_eq_false_iff_not]; omega

end Go.Proofs.Ytjjnckgdpdelkaa.P

-- spec.l7Sum marks sums.
namespace Go.Proofs.Ytjjnckgdpdelkaa.P
open Go.RowKit Go.Proofs.YtjjnckgdpdelkaaW.PrintWords Go.Proofs.YtjjnckgdpdelkaaW.PrintLast Go.Proofs.YtjjnckgdpdelkaaW.PrintMore
set_option linter.unusedVariables false
set_option linter.unusedSimpArgs false

theorem l7sum_l1 (f g : Nat → Bool) (N : Nat) (hN : N ≤ 1000) (x : Nat) (hx : x < N) (v : List Bool) (hv : Ev (fun k => spec_l7Sum.l0 k (mkT f N) (mkT g N) (mkT (qsm f g (x + 1) 0) N) ((x + 1 : Nat) : Int)) v) : ∀ (d y : Nat), N - (x + y) = d → x + y ≤ N →
    Ev (fun k => spec_l7Sum.l1 k (mkT f N) (mkT g N) (mkT (qsm f g x y) N) x y) v := by
  have l1 := mkT_length f N
  have l2 := mkT_length g N
  intro d
  induction d with
  | zero =>
    intro y hd hy
    have l3 := mkT_length (qsm f g x y) N
    rw [← mkT_congr (fun n hn => qsm_next (f := f) (g := g) (x := x) (y := y) (N := N) (.inr (by omega)) hn)] at hv
    refine Ev.step (fun k => ?_) hv
    simp only [spec_l7Sum.l1]
    rw [wadd (by omega), if_neg (by omega), wsucc (by omega)]
  | succ d ih =>
    intro y hd hy
    have l3 := mkT_length (qsm f g x y) N
    cases hf : f x with
    | false =>
      rw [← mkT_congr (fun n hn => qsm_next (f := f) (g := g) (x := x) (y := y) (N := N) (.inl hf) hn)] at hv
      refine Ev.step (fun k => ?_) hv
      simp only [spec_l7Sum.l1]
      rw [wadd (by omega), if_pos (by omega), if_pos (by omega), if_pos (by omega), rdOf_nat, mkT_get f hx, hf, if_neg (by decide), wsucc (by omega)]
    | true =>
      have h := ih (y + 1) (by omega) (by omega)
      rw [← qsm_set hf] at h
      refine Ev.step (fun k => ?_) h
      simp only [spec_l7Sum.l1]
      rw [wadd (by omega), if_pos (by omega), if_pos (by omega), if_pos (by omega), rdOf_nat, mkT_get f hx, hf, if_pos (by trivial), if_pos (by omega), if_pos (by omega), rdOf_nat, mkT_get _ (show x + y < N by omega)]
      cases hq : qsm f g x y (x + y) with
      | true => rw [if_pos (by trivial), Int.toNat_natCast, wsucc (by omega), Bool.true_or]
      | false => rw [if_neg (by decide), if_pos (by omega), if_pos (by omega), rdOf_nat, mkT_get g (by omega), Int.toNat_natCast, wsucc (by omega), Bool.false_or]
theorem l7sum_l0 (f g : Nat → Bool) (N : Nat) (hN : N ≤ 1000) : ∀ (d x : Nat), N - x = d → x ≤ N → Ev (fun k => spec_l7Sum.l0 k (mkT f N) (mkT g N) (mkT (qsm f g x 0) N) x) (mkT (sumq f g) N) := by
  have l1 := mkT_length f N
  intro d
  induction d with
  | zero =>
    intro x hd hx
    obtain rfl : x = N := by omega
    rw [← mkT_congr (fun n hn => qsm_end (f := f) (g := g) hn)]
    refine Ev.step (f := fun k => some _) (fun k => ?_) (Ev.now _)
    simp only [spec_l7Sum.l0]
    rw [if_neg (by omega)]
  | succ d ih =>
    intro x hd hx
    have h := l7sum_l1 f g N hN x (by omega) _ (ih (x + 1) (by omega) (by omega)) _ 0 rfl (by omega)
    refine Ev.step (fun k => ?_) h
    simp only [spec_l7Sum.l0]
    rw [if_pos (by omega)]; rfl
theorem l7sum_f (f g : Nat → Bool) (N : Nat) (hN : N ≤ 1000) : Ev (fun k => spec_l7Sum.f k (mkT f N) (mkT g N)) (mkT (sumq f g) N) := by
  have l1 := mkT_length f N
  have h := l7sum_l0 f g N hN _ 0 rfl (by omega)
  refine Ev.congr (fun k => ?_) h
  unfold spec_l7Sum.f
  rw [if_pos (by omega), l1, Int.toNat_natCast, if_pos (by omega), mkT_none, qsm_zero]; rfl
end Go.Proofs.Ytjjnckgdpdelkaa.P

-- spec.l7Marks marks what a term tells.
namespace Go.Proofs.Ytjjnckgdpdelkaa.P
open Go.RowKit Go.Proofs.YtjjnckgdpdelkaaW.PrintWords Go.Proofs.YtjjnckgdpdelkaaW.PrintLast Go.Proofs.YtjjnckgdpdelkaaW.PrintMore
set_option linter.unusedVariables false
set_option linter.unusedSimpArgs false

/-- A term as the reference keeps it. -/
def Tm.S : Tm → S44
  | .leaf c => ⟨(c.toNat : Int), []⟩
  | .one c t => ⟨(c.toNat : Int), [t.S]⟩
  | .two c a b => ⟨(c.toNat : Int), [a.S, b.S]⟩
theorem rdS_0 (x : S44) (l : List S44) : rd_T44 (x :: l) 0 = x := rfl
theorem rdS_1 (x y : S44) (l : List S44) : rd_T44 (x :: y :: l) 1 = y := rfl
theorem bit_f (b : Bool) : spec_l1Bit.f b = some (if b = true then 1 else 0) := by cases b <;> rfl
theorem l7marks_l1 (f : Nat → Bool) (n m : Nat) (hN : n + m + 1 ≤ 1000) (v : List Bool) (hv : Ev (fun k => spec_l7Marks.l0 k ((n + m + 1 : Nat) : Int) (mid (stq f) n (stq f n) m) (mkT f (n + m + 1)) ((n + 1 : Nat) : Int)) v) : ∀ (d y : Nat), n + 1 - y = d → 1 ≤ y → y ≤ n + 1 →
    Ev (fun k => spec_l7Marks.l1 k ((n + m + 1 : Nat) : Int) (mid (stq f) n (stV f n y) m) (mkT f (n + m + 1)) n y) v := by
  have hlen : ∀ u, ((mid (stq f) n u m).length : Int) = ((n + m + 1 : Nat) : Int) := fun u => by rw [mid_length]; omega
  have l1 := mkT_length f (n + m + 1)
  intro d
  induction d with
  | zero =>
    intro y hd h1 h2
    rw [stV_end (by omega)]
    refine Ev.step (fun k => ?_) hv
    simp only [spec_l7Marks.l1]
    rw [if_neg (by omega), wsucc (by omega)]
  | succ d ih =>
    intro y hd h1 h2
    have h := ih (y + 1) (by omega) (by omega) (by omega)
    rw [stV_step h1 (by omega)] at h
    refine Ev.step (fun k => ?_) h
    simp only [spec_l7Marks.l1]
    rw [if_pos (by omega), if_pos (by omega), hlen, if_pos (by omega), rdOf_nat, mid_self, wsucc (by omega)]
    cases hs : stV f n y with
    | true => rw [if_pos (by trivial), Int.toNat_natCast, mid_set, Bool.true_or]
    | false =>
      rw [if_neg (by decide), if_pos (by omega), if_pos (by omega), rdOf_nat, mkT_get f (by omega), Bool.false_or]
      cases hf : f y with
      | true => rw [if_pos (by trivial), wsub (by omega) (by omega), if_pos (by omega), if_pos (by omega), rdOf_nat, mid_lt _ (by omega), Int.toNat_natCast, mid_set, Bool.true_and]
      | false => rw [if_neg (by decide), Int.toNat_natCast, mid_set, Bool.false_and]
theorem l7marks_l0 (f : Nat → Bool) : ∀ (m n : Nat), n + m + 1 ≤ 1000 → Ev (fun k => spec_l7Marks.l0 k ((n + m + 1 : Nat) : Int) (mid (stq f) n false m) (mkT f (n + m + 1)) n) (mkT (stq f) (n + m + 1)) := by
  intro m
  induction m with
  | zero =>
    intro n hn
    have hfin : Ev (fun k => spec_l7Marks.l0 k ((n + 0 + 1 : Nat) : Int) (mid (stq f) n (stq f n) 0) (mkT f (n + 0 + 1)) ((n + 1 : Nat) : Int)) (mkT (stq f) (n + 0 + 1)) := by
      rw [mid_end]
      refine Ev.step (f := fun k => some (mkT (stq f) (n + 1))) (fun k => ?_) (Ev.now _)
      simp only [spec_l7Marks.l0]; rw [if_neg (by omega)]
    have hx := l7marks_l1 f n 0 hn _ hfin _ 1 rfl (Nat.le_refl _) (by omega)
    have hl := mid_length (stq f) n false 0
    refine Ev.step (fun k => ?_) hx
    simp only [spec_l7Marks.l0]
    rw [if_pos (by omega), if_pos (by omega), if_pos (by omega), Int.toNat_natCast, mid_set, stV_one]; rfl
  | succ m ih =>
    intro n hn
    have hih := ih (n + 1) (by omega)
    rw [← mid_next, show n + 1 + m + 1 = n + (m + 1) + 1 by omega] at hih
    have hx := l7marks_l1 f n (m + 1) hn _ hih _ 1 rfl (Nat.le_refl _) (by omega)
    have hl := mid_length (stq f) n false (m + 1)
    refine Ev.step (fun k => ?_) hx
    simp only [spec_l7Marks.l0]
    rw [if_pos (by omega), if_pos (by omega), if_pos (by omega), Int.toNat_natCast, mid_set, stV_one]; rfl
theorem l7marks_star (f : Nat → Bool) (N : Nat) (hN : N ≤ 1000) : Ev (fun k => spec_l7Marks.l0 k N (List.replicate N false) (mkT f N) 0) (mkT (stq f) N) := by
  rcases Nat.eq_zero_or_pos N with h | h
  · subst h
    refine Ev.step (f := fun k => some _) (fun k => ?_) (Ev.now _)
    simp only [spec_l7Marks.l0]; rw [if_neg (by omega)]; rfl
  · have := l7marks_l0 f (N - 1) 0 (by omega)
    rw [show 0 + (N - 1) + 1 = N by omega, ← mid_start, show N - 1 + 1 = N by omega] at this
    exact this
theorem l7marks_l2 (f : Nat → Bool) (N : Nat) (hN : N ≤ 1000) (s : Nat) (hs : s ≤ 200) (l : List S44) : ∀ (d j : Nat), 1 ≤ j → 48 + j + d = s → Ev (fun k => spec_l7Marks.l2 k (mkT (mulq f j) N) (mkT f N) ((48 + j : Nat) : Int) (s : Int) l) (mkT (mulq f (j + d)) N) := by
  intro d
  induction d with
  | zero =>
    intro j hj h
    refine Ev.step (f := fun k => some _) (fun k => ?_) (Ev.now _)
    simp only [spec_l7Marks.l2]; rw [if_neg (by omega)]; rfl
  | succ d ih =>
    intro j hj h
    have hih := ih (j + 1) (by omega) (by omega)
    rw [show j + 1 + d = j + (d + 1) by omega] at hih
    refine Ev.step (f := fun k => (spec_l7Sum.f k (mkT (mulq f j) N) (mkT f N)).bind fun t => spec_l7Marks.l2 k t (mkT f N) ((48 + (j + 1) : Nat) : Int) s l) (fun k => ?_) (Ev.bind (l7sum_f (mulq f j) f N hN) hih)
    simp only [spec_l7Marks.l2]
    rw [if_pos (by omega), show (((48 + j : Nat) : Int) + 1) % 256 = ((48 + (j + 1) : Nat) : Int) by omega]
/-- Marks that are made up to x. -/
def upT (h : Nat → Bool) (x N : Nat) : List Bool := mkT (fun n => decide (n < x) && h n) N
theorem upT_set (h : Nat → Bool) (x N : Nat) : (upT h x N).set x (h x) = upT h (x + 1) N := by
  unfold upT
  rw [mkT_set]
  refine mkT_congr fun n _ => ?_
  by_cases e : n = x
  · rw [if_pos e, e, decide_eq_true (by omega)]; rfl
  · rw [if_neg e]
    by_cases e2 : n < x
    · rw [decide_eq_true e2, decide_eq_true (by omega)]
    · rw [decide_eq_false e2, decide_eq_false (by omega)]
theorem upT_zero (h : Nat → Bool) (N : Nat) : upT h 0 N = List.replicate N false := by
  rw [mkT_none]; exact mkT_congr fun n _ => by rw [decide_eq_false (by omega)]; rfl
theorem upT_end (h : Nat → Bool) (N : Nat) : upT h N N = mkT h N := mkT_congr fun n hn => by rw [decide_eq_true hn]; rfl
theorem l7marks_l3 (f g : Nat → Bool) (N : Nat) (hN : N ≤ 1000) (c : Int) (l : List S44) : ∀ (d x : Nat), N - x = d → x ≤ N →
    Ev (fun k => spec_l7Marks.l3 k N (upT (fun n => if c = 43 then (f n || g n) else (f n && g n)) x N) (mkT f N) (mkT g N) x c l) (mkT (fun n => if c = 43 then (f n || g n) else (f n && g n)) N) := by
  have l1 := mkT_length f N
  have l2 := mkT_length g N
  intro d
  induction d with
  | zero =>
    intro x hd hx
    obtain rfl : x = N := by omega
    refine Ev.step (f := fun k => some _) (fun k => ?_) (Ev.now _)
    simp only [spec_l7Marks.l3]; rw [if_neg (by omega), upT_end]
  | succ d ih =>
    intro x hd hx
    have h := ih (x + 1) (by omega) (by omega)
    have l3 : (upT (fun n => if c = 43 then (f n || g n) else (f n && g n)) x N).length = N := mkT_length _ N
    rw [← upT_set] at h
    refine Ev.step (fun k => ?_) h
    simp only [spec_l7Marks.l3]
    by_cases hc : c = 43
    · rw [if_pos (by omega), if_pos hc, if_pos (by omega), if_pos (by omega), rdOf_nat, mkT_get f (by omega), wsucc (by omega)]
      simp only [if_pos hc] at l3 ⊢
      cases hf : f x with
      | true => rw [if_pos (by trivial), if_pos (by omega), Int.toNat_natCast, Bool.true_or]
      | false => rw [if_neg (by decide), if_pos (by omega), if_pos (by omega), rdOf_nat, mkT_get g (by omega), Int.toNat_natCast, Bool.false_or]
    · rw [if_pos (by omega), if_neg hc, if_pos (by omega), if_pos (by omega), rdOf_nat, mkT_get f (by omega), wsucc (by omega)]
      simp only [if_neg hc] at l3 ⊢
      cases hf : f x with
      | true => rw [if_pos (by trivial), if_pos (by omega), if_pos (by omega), rdOf_nat, mkT_get g (by omega), Int.toNat_natCast, Bool.true_and]
      | false => rw [if_neg (by decide), if_pos (by omega), Int.toNat_natCast, Bool.false_and]
theorem isO_cases {c : UInt8} (h : isO c = true) : c = 42 ∨ (c ≠ 42 ∧ 50 ≤ c.toNat ∧ c.toNat ≤ 53) := by
  unfold isO at h
  rw [Bool.or_eq_true, Bool.and_eq_true, beq_iff_eq, decide_eq_true_iff, decide_eq_true_iff] at h
  rcases h with h | h
  · exact .inl h
  · refine .inr ⟨fun e => ?_, h⟩
    subst e; simp at h
theorem isL_cases {c : UInt8} (h : isL c = true) : c = 48 ∨ c = 49 ∨ c = 97 := by
  unfold isL at h
  rw [Bool.or_eq_true, Bool.or_eq_true, beq_iff_eq, beq_iff_eq, beq_iff_eq] at h; exact h
theorem isT_cases {c : UInt8} (h : isT c = true) : c = 43 ∨ c = 46 ∨ c = 38 := by
  unfold isT at h
  rw [Bool.or_eq_true, Bool.or_eq_true, beq_iff_eq, beq_iff_eq, beq_iff_eq] at h; exact h
theorem l7marks_f (N : Nat) (hN : N ≤ 1000) : ∀ t : Tm, t.ok → Ev (fun k => spec_l7Marks.f k t.S.f0 t.S.f1 N) (mkT (tsem t) N)
  | .leaf c, h => by
    have hl : (List.replicate N false).length = N := List.length_replicate
    rcases isL_cases h with rfl | rfl | rfl
    · refine Ev.step (f := fun k => some (List.replicate N false)) (fun k => ?_) ?_
      · show spec_l7Marks.f (k + 1) 48 [] (N : Int) = _
        simp only [spec_l7Marks.f]
        rw [if_pos (by omega), Int.toNat_natCast, if_pos (by omega), Option.bind_some, if_pos (by trivial)]
      · rw [mkT_none]; exact Ev.congr (fun k => rfl) (Ev.now _)
    · refine Ev.step (f := fun k => spec_l7Marks.j0 k N (List.replicate N false) true 49 []) (fun k => ?_) (Ev.step (f := fun k => some (mkT (tsem (.leaf 49)) N)) (fun k => ?_) (Ev.now _))
      · show spec_l7Marks.f (k + 1) 49 [] (N : Int) = _
        simp only [spec_l7Marks.f]
        rw [if_pos (by omega), Int.toNat_natCast, if_pos (by omega), Option.bind_some, if_neg (by omega), if_pos (by trivial)]
      · have e9 : ((49 : Int) == 97) = false := by decide
        simp only [spec_l7Marks.j0, bit_f, e9, if_true, Option.bind_some, Bool.false_eq_true, if_false]
        by_cases h0 : 0 < N
        · rw [if_pos (by omega), if_pos (by omega), if_pos (by rw [hl]; omega), mkT_none, show ((0 : Int)).toNat = 0 from rfl, mkT_set]
          exact congrArg some (mkT_congr fun n _ => by by_cases e : n = 0 <;> simp [tsem, e])
        · obtain rfl : N = 0 := by omega
          rw [if_neg (by omega)]; rfl
    · refine Ev.step (f := fun k => spec_l7Marks.j0 k N (List.replicate N false) true 97 []) (fun k => ?_) (Ev.step (f := fun k => some (mkT (tsem (.leaf 97)) N)) (fun k => ?_) (Ev.now _))
      · show spec_l7Marks.f (k + 1) 97 [] (N : Int) = _
        simp only [spec_l7Marks.f]
        rw [if_pos (by omega), Int.toNat_natCast, if_pos (by omega), Option.bind_some, if_neg (by omega), if_neg (by omega)]; rfl
      · have e9 : ((97 : Int) == 97) = true := by decide
        simp only [spec_l7Marks.j0, bit_f, e9, if_true, Option.bind_some]
        by_cases h0 : 1 < N
        · rw [if_pos (by omega), if_pos (by omega), if_pos (by rw [hl]; omega), mkT_none, show ((1 : Int)).toNat = 1 from rfl, mkT_set]
          exact congrArg some (mkT_congr fun n _ => by by_cases e : n = 1 <;> simp [tsem, e])
        · rw [if_neg (by omega), mkT_none]
          congr 1
          refine mkT_congr fun n hn => ?_
          obtain rfl : n = 0 := by omega
          rfl
  | .one c t, h => by
    have hO : isO c = true := h.1
    have ih := l7marks_f N hN t h.2
    have hn : ¬ ((c.toNat : Int) = 48) ∧ ¬ ((c.toNat : Int) = 49) ∧ ((c.toNat : Int) == 97) = false ∧ ((c = 42 ∧ (c.toNat : Int) = 42) ∨ (c ≠ 42 ∧ 50 ≤ c.toNat ∧ c.toNat ≤ 53)) := by
      rcases isO_cases hO with rfl | ⟨h1, h2, h3⟩
      · exact ⟨by decide, by decide, by decide, .inl ⟨rfl, rfl⟩⟩
      · exact ⟨by omega, by omega, by rw [beq_eq_false_iff_ne]; omega, .inr ⟨h1, h2, h3⟩⟩
    obtain ⟨n1, n2, n3, n4⟩ := hn
    have key : Ev (fun k => spec_l7Marks.j0 k N (List.replicate N false) false (c.toNat : Int) [t.S]) (mkT (tsem (.one c t)) N) := by
      rcases n4 with ⟨rfl, e⟩ | ⟨h1, h2, h3⟩
      · refine Ev.step (f := fun k => (spec_l7Marks.f k t.S.f0 t.S.f1 N).bind fun t210 => spec_l7Marks.l0 k N (List.replicate N false) t210 0) (fun k => ?_) (Ev.bind ih (l7marks_star (tsem t) N hN))
        simp only [spec_l7Marks.j0, rdS_0]
        rw [if_neg (by decide), if_pos (by simp)]
        simp only [if_pos e]
      · have hm := l7marks_l2 (tsem t) N hN c.toNat (by omega) [t.S] (c.toNat - 49) 1 (Nat.le_refl _) (by omega)
        rw [mulq_one, show 1 + (c.toNat - 49) = c.toNat - 48 by omega] at hm
        have e2 : mkT (tsem (.one c t)) N = mkT (mulq (tsem t) (c.toNat - 48)) N := by
          show mkT (if c = 42 then _ else _) N = _
          rw [if_neg h1]
        rw [e2]
        have hm2 : Ev (fun k => spec_l7Marks.j3 k N (List.replicate N false) (mkT (tsem t) N) true (c.toNat : Int) [t.S]) (mkT (mulq (tsem t) (c.toNat - 48)) N) := by
          refine Ev.step (fun k => ?_) hm
          simp only [spec_l7Marks.j3]; rw [if_pos (by trivial)]; rfl
        refine Ev.step (f := fun k => (spec_l7Marks.f k t.S.f0 t.S.f1 N).bind fun t210 => spec_l7Marks.j3 k N (List.replicate N false) t210 true (c.toNat : Int) [t.S]) (fun k => ?_) (Ev.bind ih hm2)
        simp only [spec_l7Marks.j0, rdS_0]
        rw [if_neg (by decide), if_pos (by simp)]
        have e3 : decide ((c.toNat : Int) ≤ 53) = true := decide_eq_true (by omega)
        simp only [if_neg (show ¬ (c.toNat : Int) = 42 by omega), if_pos (show (c.toNat : Int) ≥ 50 by omega), e3]
    refine Ev.step (fun k => ?_) key
    show spec_l7Marks.f (k + 1) (c.toNat : Int) [t.S] (N : Int) = _
    simp only [spec_l7Marks.f]
    rw [if_pos (by omega), Int.toNat_natCast, if_pos (by omega), Option.bind_some, if_neg n1, if_neg n2, n3]
  | .two c a b, h => by
    have hT : isT c = true := h.1
    have iha := l7marks_f N hN a h.2.1
    have ihb := l7marks_f N hN b h.2.2
    have hn : ¬ ((c.toNat : Int) = 48) ∧ ¬ ((c.toNat : Int) = 49) ∧ ((c.toNat : Int) == 97) = false ∧ ¬ ((c.toNat : Int) = 42) ∧ ¬ ((c.toNat : Int) ≥ 50) ∧ ((c = 46 ∧ (c.toNat : Int) = 46) ∨ (c ≠ 46 ∧ ¬ (c.toNat : Int) = 46 ∧ ((c = 43) ↔ (c.toNat : Int) = 43))) := by
      rcases isT_cases hT with rfl | rfl | rfl
      · exact ⟨by decide, by decide, by decide, by decide, by decide, .inr ⟨by decide, by decide, by decide⟩⟩
      · exact ⟨by decide, by decide, by decide, by decide, by decide, .inl ⟨rfl, rfl⟩⟩
      · exact ⟨by decide, by decide, by decide, by decide, by decide, .inr ⟨by decide, by decide, by decide⟩⟩
    obtain ⟨n1, n2, n3, n4, n5, n6⟩ := hn
    have key : Ev (fun k => spec_l7Marks.j3 k N (List.replicate N false) (mkT (tsem a) N) false (c.toNat : Int) [a.S, b.S]) (mkT (tsem (.two c a b)) N) := by
      rcases n6 with ⟨rfl, e⟩ | ⟨h1, h2, h3⟩
      · refine Ev.step (f := fun k => (spec_l7Marks.f k b.S.f0 b.S.f1 N).bind fun t224 => (spec_l7Sum.f k (mkT (tsem a) N) t224).bind fun t227 => some t227) (fun k => ?_) (Ev.bind ihb (Ev.bind (l7sum_f (tsem a) (tsem b) N hN) (Ev.now _)))
        simp only [spec_l7Marks.j3, rdS_1]
        rw [if_neg (by decide), if_pos (by simp)]
        simp only [if_pos e]
      · have hm := l7marks_l3 (tsem a) (tsem b) N hN (c.toNat : Int) [a.S, b.S] N 0 rfl (by omega)
        rw [upT_zero] at hm
        have e2 : mkT (tsem (.two c a b)) N = mkT (fun n => if (c.toNat : Int) = 43 then (tsem a n || tsem b n) else (tsem a n && tsem b n)) N := by
          show mkT (if c = 46 then _ else if c = 43 then _ else _) N = _
          rw [if_neg h1]
          by_cases h4 : c = 43
          · rw [if_pos h4]; simp only [if_pos (h3.1 h4)]
          · rw [if_neg h4]; simp only [if_neg (fun x => h4 (h3.2 x))]
        rw [e2]
        refine Ev.step (f := fun k => (spec_l7Marks.f k b.S.f0 b.S.f1 N).bind fun t224 => spec_l7Marks.l3 k N (List.replicate N false) (mkT (tsem a) N) t224 0 (c.toNat : Int) [a.S, b.S]) (fun k => ?_) (Ev.bind ihb hm)
        simp only [spec_l7Marks.j3, rdS_1]
        rw [if_neg (by decide), if_pos (by simp)]
        simp only [if_neg h2]
    refine Ev.step (f := fun k => spec_l7Marks.j0 k N (List.replicate N false) false (c.toNat : Int) [a.S, b.S]) (fun k => ?_) (Ev.step (f := fun k => (spec_l7Marks.f k a.S.f0 a.S.f1 N).bind fun t210 => spec_l7Marks.j3 k N (List.replicate N false) t210 false (c.toNat : Int) [a.S, b.S]) (fun k => ?_) (Ev.bind iha key))
    · show spec_l7Marks.f (k + 1) (c.toNat : Int) [a.S, b.S] (N : Int) = _
      simp only [spec_l7Marks.f]
      rw [if_pos (by omega), Int.toNat_natCast, if_pos (by omega), Option.bind_some, if_neg n1, if_neg n2, n3]
    · simp only [spec_l7Marks.j0, rdS_0]
      rw [if_neg (by decide), if_pos (by simp)]
      simp only [if_neg n4, if_neg n5]
end Go.Proofs.Ytjjnckgdpdelkaa.P

-- Numbers up to 200 in an array: impl.zero.
namespace Go.Proofs.Ytjjnckgdpdelkaa.P
open Go.RowKit Go.Proofs.YtjjnckgdpdelkaaW.PrintWords Go.Proofs.YtjjnckgdpdelkaaW.PrintLast Go.Proofs.YtjjnckgdpdelkaaW.PrintMore
set_option linter.unusedVariables false
set_option linter.unusedSimpArgs false

/-- The cells of the numbers up to 200. -/
def numA (q : Nat → Bool) : Array Value := ((mkT q 201).map Value.bool).toArray
theorem numA_get (q : Nat → Bool) {i : Nat} (h : i < 201) : (numA q)[i]? = some (.bool (q i)) := by
  unfold numA
  rw [List.getElem?_toArray, List.getElem?_map, List.getElem?_eq_getElem (by rw [mkT_length]; exact h)]
  simp [mkT]
theorem numA_set (q : Nat → Bool) (i : Nat) (v : Bool) : (numA q).setIfInBounds i (.bool v) = numA (fun n => if n = i then v else q n) := by
  unfold numA
  rw [← mkT_set, List.map_set, List.setIfInBounds_toArray]
/-- A pointer to an array of the numbers up to 200. -/
def Nums (w : World) (p : Option Addr) (q : Nat → Bool) : Prop := ∃ b, p = some ⟨b, 0, none⟩ ∧ w.heap[b]? = some (.cells (numA q) 70 (0, 0))
theorem Nums.below {w w' : World} {p : Option Addr} {q : Nat → Bool} (h : Nums w p q) (hb : Below w.heap.size w w') : Nums w' p q := by
  obtain ⟨b, e, h⟩ := h; exact ⟨b, e, blk_below h hb⟩
theorem run_build0 (ev : Operand → Value) (W : World) (d : Option Tmp) (p : String) (af : Array Edge) (g : Option (Nat × Bool)) : (execOp ev { dst := d, op := .build 70 #[], type := 70, pos := p, after := af, guard := g }).run Try.prog W = .ok (.value (.agg (numA fun _ => false))) W := by kernel_rfl
theorem run_build1 (a : Act) (W : World) (d : Option Tmp) (p : String) (af : Array Edge) (g : Option (Nat × Bool)) : (execOp a.eval { dst := d, op := .build 70 #[(0, .const (.bool true))], type := 70, pos := p, after := af, guard := g }).run Try.prog W = .ok (.value (.agg (numA fun n => decide (n = 0)))) W := by kernel_rfl
theorem run_boxA (ev : Operand → Value) (W : World) (d : Option Tmp) (p : String) (af : Array Edge) (g : Option (Nat × Bool)) (x : Operand) (ty : TypeId) (q : Nat → Bool) (hv : ev x = .agg (numA q)) : (execOp ev { dst := d, op := .box 70 x, type := ty, pos := p, after := af, guard := g }).run Try.prog W = .ok (.value (.pointer (some ⟨W.heap.size, 0, none⟩))) (W.alloc (.cells (numA q) 70 (0, 0))) := by
  simp [execOp, go_sem, hv]

set_option maxHeartbeats 4000000 in
set_option maxRecDepth 100000 in
theorem zero_calls (w : World) :
    Calls Try.prog 44 #[] w fun e w' => (∃ b, e = .returned (.pointer (some ⟨b, 0, none⟩)) ∧ w.heap.size ≤ b ∧ w'.heap[b]? = some (.cells (numA fun n => decide (n = 0)) 70 (0, 0))) ∧ Below w.heap.size w w' := by
  go_enter Try.func44, Try.ntmps44
  go_wp2_with (first
    | ((with_reducible refine gate_dst (N := 1) rfl ?_); refine Kd.event_run rfl (run_build1 _ _ _ _ _ _) ?_)
    | ((with_reducible refine gate_dst (N := 2) rfl ?_); refine box_event rfl (N := 2) rfl (run_boxA _ _ _ _ _ _ _ _ (fun n => decide (n = 0)) rfl) ?_; intro g hg w1 hbox hb; have HX := Aside0.mk hbox; have HB := Aside0.mk hb; have HG := Aside0.mk (Nat.le_of_eq hg.symm : w.heap.size ≤ g); clear hg hbox hb))
  go_ret
  exact ⟨⟨_, rfl, HG.out, HX.out⟩, HB.out⟩
end Go.Proofs.Ytjjnckgdpdelkaa.P

-- (*numbers).plus: the sums of two sets of numbers.
namespace Go.Proofs.Ytjjnckgdpdelkaa.P
open Go.RowKit Go.Proofs.YtjjnckgdpdelkaaW.PrintWords Go.Proofs.YtjjnckgdpdelkaaW.PrintLast Go.Proofs.YtjjnckgdpdelkaaW.PrintMore
set_option linter.unusedVariables false
set_option linter.unusedSimpArgs false

theorem numA_congr {f g : Nat → Bool} (h : ∀ n, n < 201 → f n = g n) : numA f = numA g := by unfold numA; rw [mkT_congr h]
theorem numA_qset {f g : Nat → Bool} {x y : Nat} (hf : f x = true) {u : Bool} (hu : u = (qsm f g x y (x + y) || g y)) : (numA (qsm f g x y)).setIfInBounds (x + y) (.bool u) = numA (qsm f g x (y + 1)) := by
  rw [numA_set]
  refine numA_congr fun n _ => ?_
  rw [qsm_step hf, hu]
  by_cases e : n = x + y
  · rw [if_pos e, if_pos e, e]
  · rw [if_neg e, if_neg e]

set_option maxHeartbeats 8000000 in
set_option maxRecDepth 100000 in
theorem plus_calls (ba bb : Nat) (f g : Nat → Bool) (w : World) (ha : w.heap[ba]? = some (.cells (numA f) 70 (0, 0))) (hb : w.heap[bb]? = some (.cells (numA g) 70 (0, 0))) :
    Calls Try.prog 46 #[.pointer (some ⟨ba, 0, none⟩), .pointer (some ⟨bb, 0, none⟩)] w fun e w' => (∃ b, e = .returned (.pointer (some ⟨b, 0, none⟩)) ∧ w.heap.size ≤ b ∧ w'.heap[b]? = some (.cells (numA (sumq f g)) 70 (0, 0))) ∧ Below w.heap.size w w' := by
  have HA := Aside0.mk ha
  have HBB := Aside0.mk hb
  clear ha hb
  go_enter Try.func46, Try.ntmps46
  go_wp2_with (first
    | ((with_reducible refine gate_dst (N := 9) rfl ?_); refine Kd.event_run rfl (run_build0 _ _ _ _ _ _) ?_)
    | ((with_reducible refine gate_dst (N := 10) rfl ?_); refine box_event rfl (N := 10) rfl (run_boxA _ _ _ _ _ _ _ _ (fun _ => false) rfl) ?_; intro go hgo w1 hbox hb; have HO := Aside0.mk hbox; have HB := Aside0.mk hb; have HG := Aside0.mk (Nat.le_of_eq hgo.symm : w.heap.size ≤ go); clear hgo hbox hb))
  go_loopg [12] 201 (fun gg s12 wr => ∃ i : Nat, i ≤ 201 ∧ 201 - i ≤ gg ∧ s12 = .int .i64 i ∧ Aside0 (wr.heap[go]? = some (.cells (numA (qsm f g i 0)) 70 (0, 0))) ∧ Aside0 (Below w.heap.size w wr))
  case atStart => exact ⟨0, by omega, by omega, rfl, ⟨by rw [qsm_zero]; exact HO.out⟩, HB⟩
  case round =>
    obtain ⟨i, hi, hgg, rfl, HO1, HB1⟩ := hrel
    rcases Nat.lt_or_ge i 201 with hlt | hge
    · have hca : wr.cell? ⟨ba, i, none⟩ = some (.bool (f i)) := (blk_cell (blk_below HA.out HB1.out) i).trans (numA_get f hlt)
      generalize hfi : f i = fi at *
      have HFI := Aside0.mk hfi
      clear hfi
      go_wp2
      go_quiet (fail)
      have HOd := Aside0.mk (blk_drewN HO1.out nq)
      have HBd := Aside0.mk (pw_below_drewN HB1.out nq)
      go_wp2
      go_loopg [8] 202 (fun gg s8 wk_ => ∃ k : Nat, i + k ≤ 201 ∧ 201 - (i + k) ≤ gg ∧ s8 = .int .i64 k ∧ Aside0 (wk_.heap[go]? = some (.cells (numA (qsm f g i k)) 70 (0, 0))) ∧ Aside0 (Below w.heap.size w wk_))
      case atStart => exact ⟨0, by omega, by omega, rfl, HOd, HBd⟩
      case round =>
        obtain ⟨k, hk, hgg2, rfl, HO2, HB2⟩ := hrel
        have hor : (fi = true ∧ i + k ≤ 200) ∨ (fi = false ∨ 200 < i + k) := by
          cases fi with
          | false => exact .inr (.inl rfl)
          | true => rcases Nat.lt_or_ge 200 (i + k) with h | h
                    · exact .inr (.inr h)
                    · exact .inl ⟨rfl, h⟩
        rcases hor with ⟨rfl, hlt2⟩ | hend
        · have hcb : wr.cell? ⟨bb, k, none⟩ = some (.bool (g k)) := (blk_cell (blk_below HBB.out HB2.out) k).trans (numA_get g (by omega))
          have hco : wr.cell? ⟨go, i + k, none⟩ = some (.bool (qsm f g i k (i + k))) := (blk_cell HO2.out (i + k)).trans (numA_get _ (by omega))
          have hfo : wr.frozen? ⟨go, i + k, none⟩ = false := blk_frozen HO2.out (i + k)
          have hq : ∀ u, u = (qsm f g i k (i + k) || g k) → (numA (qsm f g i k)).setIfInBounds (i + k) (.bool u) = numA (qsm f g i (k + 1)) := fun u hu => numA_qset HFI.out hu
          have HQ := Aside0.mk hq
          clear hq hca
          have h200 : (i : Int) + (k : Int) ≤ 200 := by omega
          generalize qsm f g i k (i + k) = u at *
          generalize g k = v at *
          cases u with
          | false =>
            go_wp2
            go_region
            have HO3 := Aside0.mk (blk_drew (blk_put HO2.out (i + k) (.bool v) (HQ.out v rfl)))
            have HB3 := Aside0.mk (below_drew1 (below_set (g := go) (j := i + k) (v := .bool v) HB2.out HG.out))
            go_wp2
            go_roundg (201 - (i + (k + 1)))
            case measure => omega
            case rel => exact ⟨k + 1, by omega, by omega, congrArg (Value.int .i64) (by omega), HO3, HB3⟩
          | true =>
            go_wp2
            go_region
            have HO3 := Aside0.mk (blk_drew (blk_put HO2.out (i + k) (.bool true) (HQ.out true rfl)))
            have HB3 := Aside0.mk (below_drew1 (below_set (g := go) (j := i + k) (v := .bool true) HB2.out HG.out))
            go_wp2
            go_roundg (201 - (i + (k + 1)))
            case measure => omega
            case rel => exact ⟨k + 1, by omega, by omega, congrArg (Value.int .i64) (by omega), HO3, HB3⟩
        · have hnx : numA (qsm f g i k) = numA (qsm f g (i + 1) 0) := numA_congr fun n hn => qsm_next (N := 201) (by
            rcases hend with h | h
            · exact .inl (HFI.out.trans h)
            · exact .inr (by omega)) hn
          have HN := Aside0.mk (show wr.heap[go]? = some (.cells (numA (qsm f g (i + 1) 0)) 70 (0, 0)) by rw [← hnx]; exact HO2.out)
          clear hnx hca
          rcases hend with rfl | h200
          · go_wp2
            go_roundg (201 - (i + 1))
            case measure => omega
            case rel => exact ⟨i + 1, by omega, by omega, congrArg (Value.int .i64) (by omega), HN, HB2⟩
          · have h201 : ¬ ((i : Int) + (k : Int) ≤ 200) := by omega
            cases fi with
            | false =>
              go_wp2
              go_roundg (201 - (i + 1))
              case measure => omega
              case rel => exact ⟨i + 1, by omega, by omega, congrArg (Value.int .i64) (by omega), HN, HB2⟩
            | true =>
              go_wp2
              go_roundg (201 - (i + 1))
              case measure => omega
              case rel => exact ⟨i + 1, by omega, by omega, congrArg (Value.int .i64) (by omega), HN, HB2⟩
    · obtain rfl : i = 201 := by omega
      go_wp2
      go_ret
      exact ⟨⟨_, rfl, HG.out, by rw [← numA_congr (fun n hn => qsm_end (f := f) (g := g) hn)]; exact HO1.out⟩, HB1.out⟩
end Go.Proofs.Ytjjnckgdpdelkaa.P

-- (*numbers).star: the star of a set of numbers.
namespace Go.Proofs.Ytjjnckgdpdelkaa.P
open Go.RowKit Go.Proofs.YtjjnckgdpdelkaaW.PrintWords Go.Proofs.YtjjnckgdpdelkaaW.PrintLast Go.Proofs.YtjjnckgdpdelkaaW.PrintMore
set_option linter.unusedVariables false
set_option linter.unusedSimpArgs false

/-- The star made up to n, n being made. -/
noncomputable def stN (f : Nat → Bool) (n : Nat) (u : Bool) : Nat → Bool := fun x => if x < n then stq f x else if x = n then u else false
theorem stN_set (f : Nat → Bool) (n : Nat) (u v : Bool) : (numA (stN f n u)).setIfInBounds n (.bool v) = numA (stN f n v) := by
  rw [numA_set]
  refine numA_congr fun x _ => ?_
  unfold stN
  by_cases e : x = n
  · rw [if_pos e, if_neg (by omega), if_pos e]
  · rw [if_neg e, if_neg e]
    by_cases e2 : x < n
    · rw [if_pos e2, if_pos e2]
    · rw [if_neg e2, if_neg e2, if_neg e]
theorem stN_next (f : Nat → Bool) (n : Nat) : stN f n (stq f n) = stN f (n + 1) false := by
  funext x
  unfold stN
  by_cases e : x < n
  · rw [if_pos e, if_pos (by omega)]
  · rw [if_neg e]
    by_cases e2 : x = n
    · rw [if_pos e2, if_pos (by omega), e2]
    · rw [if_neg e2, if_neg (by omega)]
      split <;> rfl
theorem stN_start (f : Nat → Bool) : (fun n => decide (n = 0)) = stN f 1 false := by
  funext x
  unfold stN
  by_cases e : x = 0
  · rw [e, if_pos (by omega), stq_iff.2 (St.zero f)]; rfl
  · rw [decide_eq_false e, if_neg (by omega)]
    split <;> rfl
theorem stN_end (f : Nat → Bool) : numA (stN f 201 false) = numA (stq f) := numA_congr fun n hn => by unfold stN; rw [if_pos hn]
theorem stN_self (f : Nat → Bool) (n : Nat) (u : Bool) : stN f n u n = u := by unfold stN; rw [if_neg (by omega), if_pos rfl]
theorem stN_lt (f : Nat → Bool) {n x : Nat} (u : Bool) (h : x < n) : stN f n u x = stq f x := by unfold stN; rw [if_pos h]

set_option maxHeartbeats 8000000 in
set_option maxRecDepth 100000 in
theorem nstar_calls (ba : Nat) (f : Nat → Bool) (w : World) (ha : w.heap[ba]? = some (.cells (numA f) 70 (0, 0))) :
    Calls Try.prog 45 #[.pointer (some ⟨ba, 0, none⟩)] w fun e w' => (∃ b, e = .returned (.pointer (some ⟨b, 0, none⟩)) ∧ w.heap.size ≤ b ∧ w'.heap[b]? = some (.cells (numA (stq f)) 70 (0, 0))) ∧ Below w.heap.size w w' := by
  have HA := Aside0.mk ha
  have HZ := fun w => Aside0.mk (zero_calls w)
  have HB0 := Aside0.mk (Below.refl w.heap.size w)
  clear ha
  go_enter Try.func45, Try.ntmps45
  go_wp2_with (go_at_call 44; refine (HZ _).out.mono ?_; rintro e w1 ⟨⟨go, rfl, hG, hO⟩, hb⟩; have HO := Aside0.mk hO; have HG := Aside0.mk hG; have HB := Aside0.mk hb; clear hO hG hb)
  go_loopg [4] 200 (fun gg s4 w_ => ∃ n : Nat, 1 ≤ n ∧ n ≤ 201 ∧ 201 - n ≤ gg ∧ s4 = .int .i64 n ∧ Aside0 (w_.heap[go]? = some (.cells (numA (stN f n false)) 70 (0, 0))) ∧ Aside0 (Below w.heap.size w w_))
  case atStart => exact ⟨1, by omega, by omega, by omega, rfl, ⟨by rw [← stN_start]; exact HO.out⟩, HB⟩
  case round =>
    obtain ⟨n, hn1, hn, hgg, rfl, HO1, HB1⟩ := hrel
    rcases Nat.lt_or_ge n 201 with hlt | hge
    · go_wp2
      have HOs := Aside0.mk (show wr.heap[go]? = some (.cells (numA (stN f n (stV f n 1))) 70 (0, 0)) by
        rw [stV_one, show ((n : Int) == 0) = false by rw [beq_eq_false_iff_ne]; omega]; exact HO1.out)
      go_loopg [5] 201 (fun gg s5 w_ => ∃ k : Nat, 1 ≤ k ∧ k ≤ n + 1 ∧ n + 1 - k ≤ gg ∧ s5 = .int .i64 k ∧ Aside0 (w_.heap[go]? = some (.cells (numA (stN f n (stV f n k))) 70 (0, 0))) ∧ Aside0 (Below w.heap.size w w_))
      case atStart => exact ⟨1, by omega, by omega, by omega, rfl, HOs, HB1⟩
      case round =>
        obtain ⟨k, hk1, hk, hgg2, rfl, HO2, HB2⟩ := hrel
        rcases Nat.lt_or_ge k (n + 1) with hlt2 | hge2
        · have hca : wr.cell? ⟨ba, k, none⟩ = some (.bool (f k)) := (blk_cell (blk_below HA.out HB2.out) k).trans (numA_get f (by omega))
          have hco : wr.cell? ⟨go, n, none⟩ = some (.bool (stV f n k)) := ((blk_cell HO2.out n).trans (numA_get _ (by omega))).trans (by rw [stN_self])
          have hcp : wr.cell? ⟨go, n - k, none⟩ = some (.bool (stq f (n - k))) := ((blk_cell HO2.out (n - k)).trans (numA_get _ (by omega))).trans (by rw [stN_lt _ _ (by omega)])
          have hfo : wr.frozen? ⟨go, n, none⟩ = false := blk_frozen HO2.out n
          have HS := Aside0.mk (fun v (hv : v = (stV f n k || (f k && stq f (n - k)))) => (show (numA (stN f n (stV f n k))).setIfInBounds n (.bool v) = numA (stN f n (stV f n (k + 1))) by rw [stN_set, stV_step hk1 (by omega), hv]))
          have hsub : IntKind.i64.wrap ((n : Int) - (k : Int)) = ((n - k : Nat) : Int) := by rw [IntKind.wrap_i64]; omega
          have hkn : (k : Int) ≤ (n : Int) := by omega
          have hn2 : (n : Int) ≤ 200 := by omega
          clear hlt2 hk
          generalize stV f n k = u at *
          generalize f k = a at *
          generalize stq f (n - k) = v at *
          cases u with
          | true =>
            go_wp2
            go_region
            have HO3 := Aside0.mk (blk_drew (blk_put HO2.out n (.bool true) (HS.out true (by simp))))
            have HB3 := Aside0.mk (below_drew1 (below_set (g := go) (j := n) (v := .bool true) HB2.out HG.out))
            go_wp2
            go_roundg (n + 1 - (k + 1))
            case measure => omega
            case rel => exact ⟨k + 1, by omega, by omega, by omega, congrArg (Value.int .i64) (by omega), HO3, HB3⟩
          | false =>
            cases a with
            | true =>
              go_wp2
              go_region
              have HO3 := Aside0.mk (blk_drew (blk_put HO2.out n (.bool v) (HS.out v (by simp))))
              have HB3 := Aside0.mk (below_drew1 (below_set (g := go) (j := n) (v := .bool v) HB2.out HG.out))
              go_wp2
              go_roundg (n + 1 - (k + 1))
              case measure => omega
              case rel => exact ⟨k + 1, by omega, by omega, by omega, congrArg (Value.int .i64) (by omega), HO3, HB3⟩
            | false =>
              go_wp2
              go_region
              have HO3 := Aside0.mk (blk_drew (blk_put HO2.out n (.bool false) (HS.out false (by simp))))
              have HB3 := Aside0.mk (below_drew1 (below_set (g := go) (j := n) (v := .bool false) HB2.out HG.out))
              go_wp2
              go_roundg (n + 1 - (k + 1))
              case measure => omega
              case rel => exact ⟨k + 1, by omega, by omega, by omega, congrArg (Value.int .i64) (by omega), HO3, HB3⟩
        · obtain rfl : k = n + 1 := by omega
          have HN := Aside0.mk (show wr.heap[go]? = some (.cells (numA (stN f (n + 1) false)) 70 (0, 0)) by rw [← stN_next, ← stV_end (f := f) (Nat.lt_succ_self n)]; exact HO2.out)
          have hkn : ¬ (((n + 1 : Nat) : Int) ≤ (n : Int)) := by omega
          go_wp2
          go_roundg (201 - (n + 1))
          case measure => omega
          case rel => exact ⟨n + 1, by omega, by omega, by omega, congrArg (Value.int .i64) (by omega), HN, HB2⟩
    · obtain rfl : n = 201 := by omega
      go_wp2
      go_ret
      exact ⟨⟨_, rfl, HG.out, by rw [← stN_end]; exact HO1.out⟩, HB1.out⟩
end Go.Proofs.Ytjjnckgdpdelkaa.P

-- A term as the program keeps it: pointers to records.
namespace Go.Proofs.Ytjjnckgdpdelkaa.P
open Go.RowKit Go.Proofs.YtjjnckgdpdelkaaW.PrintWords Go.Proofs.YtjjnckgdpdelkaaW.PrintLast Go.Proofs.YtjjnckgdpdelkaaW.PrintMore
set_option linter.unusedVariables false
set_option linter.unusedSimpArgs false

/-- The pointer p leads to the record of a term. -/
def IT (w : World) : Tm → Option Addr → Prop
  | .leaf c, p => ∃ b A n, p = some ⟨b, 0, none⟩ ∧ w.heap[b]? = some (.cells #[.int .u8 (c.toNat : Int), .slice A 0 n] 73 (0, 0))
  | .one c t, p => ∃ b g n q, p = some ⟨b, 0, none⟩ ∧ w.heap[b]? = some (.cells #[.int .u8 (c.toNat : Int), .slice (some ⟨g, 0, none⟩) 1 n] 73 (0, 0)) ∧ 1 ≤ n ∧ w.cell? ⟨g, 0, none⟩ = some (.pointer q) ∧ IT w t q
  | .two c t u, p => ∃ b g n q r, p = some ⟨b, 0, none⟩ ∧ w.heap[b]? = some (.cells #[.int .u8 (c.toNat : Int), .slice (some ⟨g, 0, none⟩) 2 n] 73 (0, 0)) ∧ 2 ≤ n ∧ w.cell? ⟨g, 0, none⟩ = some (.pointer q) ∧ w.cell? ⟨g, 1, none⟩ = some (.pointer r) ∧ IT w t q ∧ IT w u r
theorem IT.below {w w' : World} (hb : Below w.heap.size w w') : ∀ {t : Tm} {p : Option Addr}, IT w t p → IT w' t p
  | .leaf c, p, h => by obtain ⟨b, A, n, e, h1⟩ := h; exact ⟨b, A, n, e, blk_below h1 hb⟩
  | .one c t, p, h => by
    obtain ⟨b, g, n, q, e, h1, h2, h3, h4⟩ := h
    exact ⟨b, g, n, q, e, blk_below h1 hb, h2, (hb.cell (World.block_lt_of_cell? w _ h3)).trans h3, h4.below hb⟩
  | .two c t u, p, h => by
    obtain ⟨b, g, n, q, r, e, h1, h2, h3, h4, h5, h6⟩ := h
    exact ⟨b, g, n, q, r, e, blk_below h1 hb, h2, (hb.cell (World.block_lt_of_cell? w _ h3)).trans h3, (hb.cell (World.block_lt_of_cell? w _ h4)).trans h4, h5.below hb, h6.below hb⟩
theorem IT.some {w : World} {t : Tm} {p : Option Addr} (h : IT w t p) : ∃ b, p = some ⟨b, 0, none⟩ ∧ b < w.heap.size := by
  cases t with
  | leaf c => obtain ⟨b, A, n, e, h1⟩ := h; exact ⟨b, e, blk_lt h1⟩
  | one c t => obtain ⟨b, g, n, q, e, h1, _⟩ := h; exact ⟨b, e, blk_lt h1⟩
  | two c t u => obtain ⟨b, g, n, q, r, e, h1, _⟩ := h; exact ⟨b, e, blk_lt h1⟩
end Go.Proofs.Ytjjnckgdpdelkaa.P

-- (*term).numbers: the numbers up to 200 that a term tells.
namespace Go.Proofs.Ytjjnckgdpdelkaa.P
open Go.RowKit Go.Proofs.YtjjnckgdpdelkaaW.PrintWords Go.Proofs.YtjjnckgdpdelkaaW.PrintLast Go.Proofs.YtjjnckgdpdelkaaW.PrintMore
set_option linter.unusedVariables false
set_option linter.unusedSimpArgs false

/-- What (*term).numbers does at a term. -/
def NumbersOf (t : Tm) : Prop := ∀ (p : Option Addr) (w : World), IT w t p → Calls Try.prog 31 #[.pointer p] w fun e w' => (∃ b, e = .returned (.pointer (some ⟨b, 0, none⟩)) ∧ w.heap.size ≤ b ∧ w'.heap[b]? = some (.cells (numA (tsem t)) 70 (0, 0))) ∧ Below w.heap.size w w'

set_option maxHeartbeats 8000000 in
set_option maxRecDepth 100000 in
theorem numbers_leaf (c : UInt8) (h : (Tm.leaf c).ok) : NumbersOf (.leaf c) := by
  rintro p w ⟨b, A, n, rfl, hb⟩
  have hc0 : w.cell? ⟨b, 0, none⟩ = some (.int .u8 (c.toNat : Int)) := (blk_cell hb 0).trans rfl
  have hlt : b < w.heap.size := blk_lt hb
  have HZ := fun w => Aside0.mk (zero_calls w)
  have hL := isL_cases h
  clear hb h
  rcases hL with rfl | rfl | rfl
  · have HE := Aside0.mk (show numA (tsem (.leaf 48)) = numA (fun _ => false) from numA_congr fun n _ => by simp [tsem])
    rw [show ((48 : UInt8).toNat : Int) = 48 from rfl] at hc0
    go_enter Try.func31, Try.ntmps31
    go_wp2_with (first
      | ((with_reducible refine gate_dst (N := 8) rfl ?_); refine Kd.event_run rfl (run_build0 _ _ _ _ _ _) ?_)
      | ((with_reducible refine gate_dst (N := 9) rfl ?_); refine box_event rfl (N := 9) rfl (run_boxA _ _ _ _ _ _ _ _ (fun _ => false) rfl) ?_; intro go hgo w1 hbox hb; have HO := Aside0.mk hbox; have HB := Aside0.mk hb; have HG := Aside0.mk (Nat.le_of_eq hgo.symm : w.heap.size ≤ go); have hc1 := (hb.cell (p := ⟨b, 0, none⟩) hlt).trans hc0; clear hgo hbox hb))
    go_ret
    exact ⟨⟨_, rfl, HG.out, by rw [HE.out]; exact HO.out⟩, HB.out⟩
  · have HE := Aside0.mk (show numA (tsem (.leaf 49)) = numA (fun n => decide (n = 0)) from numA_congr fun n _ => by simp [tsem])
    rw [show ((49 : UInt8).toNat : Int) = 49 from rfl] at hc0
    go_enter Try.func31, Try.ntmps31
    go_wp2_with (first
      | ((with_reducible refine gate_dst (N := 8) rfl ?_); refine Kd.event_run rfl (run_build0 _ _ _ _ _ _) ?_)
      | ((with_reducible refine gate_dst (N := 9) rfl ?_); refine box_event rfl (N := 9) rfl (run_boxA _ _ _ _ _ _ _ _ (fun _ => false) rfl) ?_; intro go hgo w1 hbox hb; have HO := Aside0.mk hbox; have HB := Aside0.mk hb; have HG := Aside0.mk (Nat.le_of_eq hgo.symm : w.heap.size ≤ go); have hc1 := (hb.cell (p := ⟨b, 0, none⟩) hlt).trans hc0; clear hgo hbox hb)
      | (go_at_call 44; refine (HZ _).out.mono ?_; rintro e w2 ⟨⟨gz, rfl, hG, hO⟩, hb2⟩; have HO2 := Aside0.mk hO; have HG2 := Aside0.mk (Nat.le_trans HB.out.size hG); have HB2 := Aside0.mk (below_step HB.out hb2); clear hO hG hb2))
    go_ret
    exact ⟨⟨_, rfl, HG2.out, by rw [HE.out]; exact HO2.out⟩, HB2.out⟩
  · have HE := Aside0.mk (show (numA (fun _ => false)).setIfInBounds 1 (.bool true) = numA (tsem (.leaf 97)) by
      rw [numA_set]
      exact numA_congr fun n _ => by by_cases e : n = 1 <;> simp [tsem, e])
    rw [show ((97 : UInt8).toNat : Int) = 97 from rfl] at hc0
    go_enter Try.func31, Try.ntmps31
    go_wp2_with (first
      | ((with_reducible refine gate_dst (N := 8) rfl ?_); refine Kd.event_run rfl (run_build0 _ _ _ _ _ _) ?_)
      | ((with_reducible refine gate_dst (N := 9) rfl ?_); refine box_event rfl (N := 9) rfl (run_boxA _ _ _ _ _ _ _ _ (fun _ => false) rfl) ?_; intro go hgo w1 hbox hb; have HO := Aside0.mk hbox; have HB := Aside0.mk hb; have HG := Aside0.mk (Nat.le_of_eq hgo.symm : w.heap.size ≤ go); have hc1 := (hb.cell (p := ⟨b, 0, none⟩) hlt).trans hc0; have hg1 : w1.cell? ⟨go, 1, none⟩ = some (.bool false) := (blk_cell HO.out 1).trans (numA_get _ (by omega)); have hf1 : w1.frozen? ⟨go, 1, none⟩ = false := blk_frozen HO.out 1; clear hgo hbox hb))
    go_ret
    exact ⟨⟨_, rfl, HG.out, blk_put HO.out 1 (.bool true) HE.out⟩, below_set HB.out HG.out⟩

set_option maxHeartbeats 8000000 in
set_option maxRecDepth 100000 in
theorem numbers_star (t : Tm) (ih : NumbersOf t) : NumbersOf (.one 42 t) := by
  rintro p w ⟨b, g, n, q, rfl, hb, hn, hq, ht⟩
  have hc0 : w.cell? ⟨b, 0, none⟩ = some (.int .u8 42) := (blk_cell hb 0).trans rfl
  have hc1 : w.cell? ⟨b, 1, none⟩ = some (.slice (some ⟨g, 0, none⟩) 1 n) := (blk_cell hb 1).trans rfl
  have hlt : b < w.heap.size := blk_lt hb
  have hltg : g < w.heap.size := World.block_lt_of_cell? w _ hq
  have IH := fun w' (h : IT w' t q) => Aside0.mk (ih q w' h)
  have HT := Aside0.mk ht
  have HS := fun ba w' ha => Aside0.mk (nstar_calls ba (tsem t) w' ha)
  have HE := Aside0.mk (show numA (stq (tsem t)) = numA (tsem (.one 42 t)) from rfl)
  generalize tsem t = f at *
  clear hb ht ih
  go_enter Try.func31, Try.ntmps31
  go_wp2_with (first
    | ((with_reducible refine gate_dst (N := 8) rfl ?_); refine Kd.event_run rfl (run_build0 _ _ _ _ _ _) ?_)
    | ((with_reducible refine gate_dst (N := 9) rfl ?_); refine box_event rfl (N := 9) rfl (run_boxA _ _ _ _ _ _ _ _ (fun _ => false) rfl) ?_; intro go hgo w1 hbox hb; have HO := Aside0.mk hbox; have HB := Aside0.mk hb; have HG := Aside0.mk (Nat.le_of_eq hgo.symm : w.heap.size ≤ go); have hd0 := (hb.cell (p := ⟨b, 0, none⟩) hlt).trans hc0; have hd1 := (hb.cell (p := ⟨b, 1, none⟩) hlt).trans hc1; have hdq := (hb.cell (p := ⟨g, 0, none⟩) hltg).trans hq; have HT1 := Aside0.mk (HT.out.below hb); clear hgo hbox hb)
    | (go_at_call 31; refine (IH _ HT1.out).out.mono ?_; rintro e w2 ⟨⟨ga, rfl, hGa, hO⟩, hb2⟩; have HO2 := Aside0.mk hO; have HB2 := Aside0.mk (below_step HB.out hb2); clear hO hb2)
    | (go_at_call 45; refine (HS ga _ HO2.out).out.mono ?_; rintro e w3 ⟨⟨gs, rfl, hGs, hO⟩, hb3⟩; have HO3 := Aside0.mk hO; have HG3 := Aside0.mk (Nat.le_trans HB2.out.size hGs); have HB3 := Aside0.mk (below_step HB2.out hb3); clear hO hb3))
  go_ret
  exact ⟨⟨_, rfl, HG3.out, by rw [← HE.out]; exact HO3.out⟩, HB3.out⟩
end Go.Proofs.Ytjjnckgdpdelkaa.P

-- (*term).numbers at two terms.
namespace Go.Proofs.Ytjjnckgdpdelkaa.P
open Go.RowKit Go.Proofs.YtjjnckgdpdelkaaW.PrintWords Go.Proofs.YtjjnckgdpdelkaaW.PrintLast Go.Proofs.YtjjnckgdpdelkaaW.PrintMore
set_option linter.unusedVariables false
set_option linter.unusedSimpArgs false

/-- Made up to x. -/
def upq (h : Nat → Bool) (x : Nat) : Nat → Bool := fun n => decide (n < x) && h n
theorem upq_set (h : Nat → Bool) (x : Nat) {v : Bool} (hv : v = h x) : (numA (upq h x)).setIfInBounds x (.bool v) = numA (upq h (x + 1)) := by
  rw [numA_set]
  refine numA_congr fun n _ => ?_
  unfold upq
  by_cases e : n = x
  · rw [if_pos e, e, hv, decide_eq_true (by omega)]; rfl
  · rw [if_neg e]
    by_cases e2 : n < x
    · rw [decide_eq_true e2, decide_eq_true (by omega)]
    · rw [decide_eq_false e2, decide_eq_false (by omega)]
theorem upq_zero (h : Nat → Bool) : numA (upq h 0) = numA (fun _ => false) := numA_congr fun n _ => by unfold upq; rw [decide_eq_false (by omega)]; rfl
theorem upq_end (h : Nat → Bool) : numA (upq h 201) = numA h := numA_congr fun n hn => by unfold upq; rw [decide_eq_true hn]; rfl

set_option maxHeartbeats 16000000 in
set_option maxRecDepth 100000 in
theorem numbers_both (c : UInt8) (hc : c = 43 ∨ c = 38) (t u : Tm) (iht : NumbersOf t) (ihu : NumbersOf u) : NumbersOf (.two c t u) := by
  rintro p w ⟨b, g, n, q, r, rfl, hb, hn, hq, hr, ht, hu⟩
  have hn1 : (c.toNat : Int) = 43 ∨ (c.toNat : Int) = 38 := by rcases hc with rfl | rfl; exact .inl rfl; exact .inr rfl
  have hc0 : w.cell? ⟨b, 0, none⟩ = some (.int .u8 (c.toNat : Int)) := (blk_cell hb 0).trans rfl
  have hc1 : w.cell? ⟨b, 1, none⟩ = some (.slice (some ⟨g, 0, none⟩) 2 n) := (blk_cell hb 1).trans rfl
  have hlt : b < w.heap.size := blk_lt hb
  have hltg : g < w.heap.size := World.block_lt_of_cell? w _ hq
  have IH1 := fun w' (h : Below w.heap.size w w') => Aside0.mk (iht q w' (ht.below h))
  have IH2 := fun w' (h : Below w.heap.size w w') => Aside0.mk (ihu r w' (hu.below h))
  have HE := Aside0.mk (show tsem (.two c t u) = fun n => if (c.toNat : Int) = 43 then (tsem t n || tsem u n) else (tsem t n && tsem u n) by
    rcases hc with rfl | rfl
    · rfl
    · rfl)
  generalize tsem (.two c t u) = h at *
  generalize tsem t = f1 at *
  generalize tsem u = f2 at *
  generalize (c.toNat : Int) = s at *
  have HK : ∀ w', Below w.heap.size w w' → (w'.cell? ⟨b, 0, none⟩ = some (.int .u8 s) ∧ w'.cell? ⟨b, 1, none⟩ = some (.slice (some ⟨g, 0, none⟩) 2 n) ∧ w'.cell? ⟨g, 0, none⟩ = some (.pointer q) ∧ w'.cell? ⟨g, 1, none⟩ = some (.pointer r) ∧ Below w.heap.size w w') := fun w' hw =>
    ⟨(hw.cell (p := ⟨b, 0, none⟩) hlt).trans hc0, (hw.cell (p := ⟨b, 1, none⟩) hlt).trans hc1, (hw.cell (p := ⟨g, 0, none⟩) hltg).trans hq, (hw.cell (p := ⟨g, 1, none⟩) hltg).trans hr, hw⟩
  have HKA := Aside0.mk HK
  clear hb ht hu iht ihu HK hc
  have hs0 : ¬ s = 48 ∧ ¬ s = 49 ∧ ¬ s = 97 ∧ ¬ s = 42 := by omega
  obtain ⟨hs1, hs2, hs3, hs4⟩ := hs0
  rcases hn1 with rfl | rfl
  · have hh : ∀ i, h i = (f1 i || f2 i) := fun i => by rw [HE.out]; exact if_pos rfl
    have HH := Aside0.mk hh
    clear hh HE
    go_enter Try.func31, Try.ntmps31
    go_wp2_with (first
      | ((with_reducible refine gate_dst (N := 8) rfl ?_); refine Kd.event_run rfl (run_build0 _ _ _ _ _ _) ?_)
      | ((with_reducible refine gate_dst (N := 9) rfl ?_); refine box_event rfl (N := 9) rfl (run_boxA _ _ _ _ _ _ _ _ (fun _ => false) rfl) ?_; intro go hgo w1 hbox hb; have HO := Aside0.mk hbox; have HB := Aside0.mk hb; have HG := Aside0.mk (Nat.le_of_eq hgo.symm : w.heap.size ≤ go); obtain ⟨hd0, hd1, hdq, hdr, _⟩ := HKA.out w1 hb; clear hgo hbox hb))
    have HKB := Aside0.mk (fun (w' : World) (hw : Below w1.heap.size w1 w') => (show w'.cell? ⟨b, 0, none⟩ = some (.int .u8 43) ∧ w'.cell? ⟨b, 1, none⟩ = some (.slice (some ⟨g, 0, none⟩) 2 n) ∧ w'.cell? ⟨g, 0, none⟩ = some (.pointer q) ∧ w'.cell? ⟨g, 1, none⟩ = some (.pointer r) ∧ go < w'.heap.size ∧ Below w1.heap.size w1 w' from have h9 := HKA.out w' (below_step HB.out hw); ⟨h9.1, h9.2.1, h9.2.2.1, h9.2.2.2.1, Nat.lt_of_lt_of_le (blk_lt HO.out) hw.size, hw⟩))
    go_region_held3 (fun w' => w'.cell? ⟨b, 0, none⟩ = some (.int .u8 43) ∧ w'.cell? ⟨b, 1, none⟩ = some (.slice (some ⟨g, 0, none⟩) 2 n) ∧ w'.cell? ⟨g, 0, none⟩ = some (.pointer q) ∧ w'.cell? ⟨g, 1, none⟩ = some (.pointer r) ∧ go < w'.heap.size ∧ Below w1.heap.size w1 w')
      ((refine HKB.out _ ?_; go_split_ands; (first | exact Below.refl _ _ | assumption | exact below_step (by assumption) hda | exact below_step (by assumption) hdb | (apply below_drew1; first | assumption | exact Below.refl _ _))))
      ((first
        | (go_at_call 31; go_split_ands; with_reducible refine (IH1 _ (below_step HB.out (by assumption))).out.mono ?_; rintro e wa ⟨⟨ga, rfl, hGa, hOa⟩, hda⟩; have GA := Aside0.mk ((fun h9 => Nat.ne_of_lt (Nat.lt_of_lt_of_le h9 hGa)) (by assumption)); have NA := Aside0.mk hOa; (try (have NB2 := Aside0.mk (blk_below NB.out hda))); clear hOa hGa)
        | (go_at_call 31; go_split_ands; with_reducible refine (IH2 _ (below_step HB.out (by assumption))).out.mono ?_; rintro e wb ⟨⟨gb, rfl, hGb, hOb⟩, hdb⟩; have GB := Aside0.mk ((fun h9 => Nat.ne_of_lt (Nat.lt_of_lt_of_le h9 hGb)) (by assumption)); have NB := Aside0.mk hOb; (try (have NA2 := Aside0.mk (blk_below NA.out hdb))); clear hOb hGb)))
    all_goals
      rename_i hHeld
      obtain ⟨_, _, _, _, _, hBW⟩ := hHeld
      have HBW := Aside0.mk (below_step HB.out hBW)
      first
        | (have X1 := NA2; have X2 := NB; have XO := Aside0.mk (blk_below (blk_below (blk_drew HO.out) hda) hdb))
        | (have X1 := NA; have X2 := NB2; have XO := Aside0.mk (blk_below (blk_below (blk_drew HO.out) hdb) hda))
      clear hBW hda hdb hd0 hd1 hdq hdr
      go_wp2
      go_loopg [70] 201 (fun gg s70 w_ => ∃ i : Nat, i ≤ 201 ∧ 201 - i ≤ gg ∧ s70 = .int .i64 i ∧ Aside0 (w_.heap[go]? = some (.cells (numA (upq h i)) 70 (0, 0))) ∧ Aside0 (w_.heap[ga]? = some (.cells (numA f1) 70 (0, 0))) ∧ Aside0 (w_.heap[gb]? = some (.cells (numA f2) 70 (0, 0))) ∧ Aside0 (Below w.heap.size w w_))
      case atStart => exact ⟨0, by omega, by omega, rfl, ⟨by rw [upq_zero]; exact XO.out⟩, X1, X2, HBW⟩
      case round =>
        obtain ⟨i, hi, hgg, rfl, HO1, HA1, HB1, HW1⟩ := hrel
        rcases Nat.lt_or_ge i 201 with hlt2 | hge
        · have hca : wr.cell? ⟨ga, i, none⟩ = some (.bool (f1 i)) := (blk_cell HA1.out i).trans (numA_get f1 hlt2)
          have hcb : wr.cell? ⟨gb, i, none⟩ = some (.bool (f2 i)) := (blk_cell HB1.out i).trans (numA_get f2 hlt2)
          have hco : wr.cell? ⟨go, i, none⟩ = some (.bool (upq h i i)) := (blk_cell HO1.out i).trans (numA_get _ hlt2)
          have hfo : wr.frozen? ⟨go, i, none⟩ = false := blk_frozen HO1.out i
          obtain ⟨hd0, _, _, _, _⟩ := HKA.out wr HW1.out
          have HS := Aside0.mk (fun (v : Bool) (hv : v = (f1 i || f2 i)) => (show (wr.setCell ⟨go, i, none⟩ (.bool v)).drew.heap[go]? = some (.cells (numA (upq h (i + 1))) 70 (0, 0)) ∧ (wr.setCell ⟨go, i, none⟩ (.bool v)).drew.heap[ga]? = some (.cells (numA f1) 70 (0, 0)) ∧ (wr.setCell ⟨go, i, none⟩ (.bool v)).drew.heap[gb]? = some (.cells (numA f2) 70 (0, 0)) ∧ Below w.heap.size w (wr.setCell ⟨go, i, none⟩ (.bool v)).drew from
            ⟨blk_drew (blk_put HO1.out i (.bool v) (upq_set h i (by rw [HH.out, hv]))), blk_drew (blk_far HA1.out (fun e9 => GA.out e9.symm) _), blk_drew (blk_far HB1.out (fun e9 => GB.out e9.symm) _), below_drew1 (below_set (g := go) (j := i) (v := .bool v) HW1.out HG.out)⟩))
          generalize f1 i = a1 at *
          generalize f2 i = a2 at *
          generalize upq h i i = a3 at *
          cases a1 <;> cases a2
          all_goals
            go_wp2
            go_region
            have K1 := Aside0.mk (HS.out _ (by first | exact (rfl : true = _) | exact (rfl : false = _)))
            clear HS
            go_wp2
            go_roundg (201 - (i + 1))
            case measure => omega
            case rel => exact ⟨i + 1, by omega, by omega, congrArg (Value.int .i64) (by omega), ⟨K1.out.1⟩, ⟨K1.out.2.1⟩, ⟨K1.out.2.2.1⟩, ⟨K1.out.2.2.2⟩⟩
        · obtain rfl : i = 201 := by omega
          go_wp2
          go_ret
          exact ⟨⟨_, rfl, HG.out, by rw [← upq_end]; exact HO1.out⟩, HW1.out⟩
  · have hh : ∀ i, h i = (f1 i && f2 i) := fun i => by rw [HE.out]; exact if_neg (by decide)
    have HH := Aside0.mk hh
    clear hh HE
    go_enter Try.func31, Try.ntmps31
    go_wp2_with (first
      | ((with_reducible refine gate_dst (N := 8) rfl ?_); refine Kd.event_run rfl (run_build0 _ _ _ _ _ _) ?_)
      | ((with_reducible refine gate_dst (N := 9) rfl ?_); refine box_event rfl (N := 9) rfl (run_boxA _ _ _ _ _ _ _ _ (fun _ => false) rfl) ?_; intro go hgo w1 hbox hb; have HO := Aside0.mk hbox; have HB := Aside0.mk hb; have HG := Aside0.mk (Nat.le_of_eq hgo.symm : w.heap.size ≤ go); obtain ⟨hd0, hd1, hdq, hdr, _⟩ := HKA.out w1 hb; clear hgo hbox hb))
    have HKB := Aside0.mk (fun (w' : World) (hw : Below w1.heap.size w1 w') => (show w'.cell? ⟨b, 0, none⟩ = some (.int .u8 38) ∧ w'.cell? ⟨b, 1, none⟩ = some (.slice (some ⟨g, 0, none⟩) 2 n) ∧ w'.cell? ⟨g, 0, none⟩ = some (.pointer q) ∧ w'.cell? ⟨g, 1, none⟩ = some (.pointer r) ∧ go < w'.heap.size ∧ Below w1.heap.size w1 w' from have h9 := HKA.out w' (below_step HB.out hw); ⟨h9.1, h9.2.1, h9.2.2.1, h9.2.2.2.1, Nat.lt_of_lt_of_le (blk_lt HO.out) hw.size, hw⟩))
    go_region_held3 (fun w' => w'.cell? ⟨b, 0, none⟩ = some (.int .u8 38) ∧ w'.cell? ⟨b, 1, none⟩ = some (.slice (some ⟨g, 0, none⟩) 2 n) ∧ w'.cell? ⟨g, 0, none⟩ = some (.pointer q) ∧ w'.cell? ⟨g, 1, none⟩ = some (.pointer r) ∧ go < w'.heap.size ∧ Below w1.heap.size w1 w')
      ((refine HKB.out _ ?_; go_split_ands; (first | exact Below.refl _ _ | assumption | exact below_step (by assumption) hda | exact below_step (by assumption) hdb | (apply below_drew1; first | assumption | exact Below.refl _ _))))
      ((first
        | (go_at_call 31; go_split_ands; with_reducible refine (IH1 _ (below_step HB.out (by assumption))).out.mono ?_; rintro e wa ⟨⟨ga, rfl, hGa, hOa⟩, hda⟩; have GA := Aside0.mk ((fun h9 => Nat.ne_of_lt (Nat.lt_of_lt_of_le h9 hGa)) (by assumption)); have NA := Aside0.mk hOa; (try (have NB2 := Aside0.mk (blk_below NB.out hda))); clear hOa hGa)
        | (go_at_call 31; go_split_ands; with_reducible refine (IH2 _ (below_step HB.out (by assumption))).out.mono ?_; rintro e wb ⟨⟨gb, rfl, hGb, hOb⟩, hdb⟩; have GB := Aside0.mk ((fun h9 => Nat.ne_of_lt (Nat.lt_of_lt_of_le h9 hGb)) (by assumption)); have NB := Aside0.mk hOb; (try (have NA2 := Aside0.mk (blk_below NA.out hdb))); clear hOb hGb)))
    all_goals
      rename_i hHeld
      obtain ⟨_, _, _, _, _, hBW⟩ := hHeld
      have HBW := Aside0.mk (below_step HB.out hBW)
      first
        | (have X1 := NA2; have X2 := NB; have XO := Aside0.mk (blk_below (blk_below (blk_drew HO.out) hda) hdb))
        | (have X1 := NA; have X2 := NB2; have XO := Aside0.mk (blk_below (blk_below (blk_drew HO.out) hdb) hda))
      clear hBW hda hdb hd0 hd1 hdq hdr
      go_wp2
      go_loopg [70] 201 (fun gg s70 w_ => ∃ i : Nat, i ≤ 201 ∧ 201 - i ≤ gg ∧ s70 = .int .i64 i ∧ Aside0 (w_.heap[go]? = some (.cells (numA (upq h i)) 70 (0, 0))) ∧ Aside0 (w_.heap[ga]? = some (.cells (numA f1) 70 (0, 0))) ∧ Aside0 (w_.heap[gb]? = some (.cells (numA f2) 70 (0, 0))) ∧ Aside0 (Below w.heap.size w w_))
      case atStart => exact ⟨0, by omega, by omega, rfl, ⟨by rw [upq_zero]; exact XO.out⟩, X1, X2, HBW⟩
      case round =>
        obtain ⟨i, hi, hgg, rfl, HO1, HA1, HB1, HW1⟩ := hrel
        rcases Nat.lt_or_ge i 201 with hlt2 | hge
        · have hca : wr.cell? ⟨ga, i, none⟩ = some (.bool (f1 i)) := (blk_cell HA1.out i).trans (numA_get f1 hlt2)
          have hcb : wr.cell? ⟨gb, i, none⟩ = some (.bool (f2 i)) := (blk_cell HB1.out i).trans (numA_get f2 hlt2)
          have hco : wr.cell? ⟨go, i, none⟩ = some (.bool (upq h i i)) := (blk_cell HO1.out i).trans (numA_get _ hlt2)
          have hfo : wr.frozen? ⟨go, i, none⟩ = false := blk_frozen HO1.out i
          obtain ⟨hd0, _, _, _, _⟩ := HKA.out wr HW1.out
          have HS := Aside0.mk (fun (v : Bool) (hv : v = (f1 i && f2 i)) => (show (wr.setCell ⟨go, i, none⟩ (.bool v)).drew.heap[go]? = some (.cells (numA (upq h (i + 1))) 70 (0, 0)) ∧ (wr.setCell ⟨go, i, none⟩ (.bool v)).drew.heap[ga]? = some (.cells (numA f1) 70 (0, 0)) ∧ (wr.setCell ⟨go, i, none⟩ (.bool v)).drew.heap[gb]? = some (.cells (numA f2) 70 (0, 0)) ∧ Below w.heap.size w (wr.setCell ⟨go, i, none⟩ (.bool v)).drew from
            ⟨blk_drew (blk_put HO1.out i (.bool v) (upq_set h i (by rw [HH.out, hv]))), blk_drew (blk_far HA1.out (fun e9 => GA.out e9.symm) _), blk_drew (blk_far HB1.out (fun e9 => GB.out e9.symm) _), below_drew1 (below_set (g := go) (j := i) (v := .bool v) HW1.out HG.out)⟩))
          generalize f1 i = a1 at *
          generalize f2 i = a2 at *
          generalize upq h i i = a3 at *
          cases a1 <;> cases a2
          all_goals
            go_wp2
            go_region
            have K1 := Aside0.mk (HS.out _ (by first | exact (rfl : true = _) | exact (rfl : false = _)))
            clear HS
            go_wp2
            go_roundg (201 - (i + 1))
            case measure => omega
            case rel => exact ⟨i + 1, by omega, by omega, congrArg (Value.int .i64) (by omega), ⟨K1.out.1⟩, ⟨K1.out.2.1⟩, ⟨K1.out.2.2.1⟩, ⟨K1.out.2.2.2⟩⟩
        · obtain rfl : i = 201 := by omega
          go_wp2
          go_ret
          exact ⟨⟨_, rfl, HG.out, by rw [← upq_end]; exact HO1.out⟩, HW1.out⟩
end Go.Proofs.Ytjjnckgdpdelkaa.P

-- (*term).numbers at a sum of two terms, and at many of one.
namespace Go.Proofs.Ytjjnckgdpdelkaa.P
open Go.RowKit Go.Proofs.YtjjnckgdpdelkaaW.PrintWords Go.Proofs.YtjjnckgdpdelkaaW.PrintLast Go.Proofs.YtjjnckgdpdelkaaW.PrintMore
set_option linter.unusedVariables false
set_option linter.unusedSimpArgs false

set_option maxHeartbeats 16000000 in
set_option maxRecDepth 100000 in
theorem numbers_dot (t u : Tm) (iht : NumbersOf t) (ihu : NumbersOf u) : NumbersOf (.two 46 t u) := by
  rintro p w ⟨b, g, n, q, r, rfl, hb, hn, hq, hr, ht, hu⟩
  have hc0 : w.cell? ⟨b, 0, none⟩ = some (.int .u8 46) := (blk_cell hb 0).trans rfl
  have hc1 : w.cell? ⟨b, 1, none⟩ = some (.slice (some ⟨g, 0, none⟩) 2 n) := (blk_cell hb 1).trans rfl
  have hlt : b < w.heap.size := blk_lt hb
  have hltg : g < w.heap.size := World.block_lt_of_cell? w _ hq
  have IH1 := fun w' (h : Below w.heap.size w w') => Aside0.mk (iht q w' (ht.below h))
  have IH2 := fun w' (h : Below w.heap.size w w') => Aside0.mk (ihu r w' (hu.below h))
  have HE := Aside0.mk (show numA (sumq (tsem t) (tsem u)) = numA (tsem (.two 46 t u)) from rfl)
  generalize tsem (.two 46 t u) = h at *
  generalize tsem t = f1 at *
  generalize tsem u = f2 at *
  have HK : ∀ w', Below w.heap.size w w' → (w'.cell? ⟨b, 0, none⟩ = some (.int .u8 46) ∧ w'.cell? ⟨b, 1, none⟩ = some (.slice (some ⟨g, 0, none⟩) 2 n) ∧ w'.cell? ⟨g, 0, none⟩ = some (.pointer q) ∧ w'.cell? ⟨g, 1, none⟩ = some (.pointer r) ∧ Below w.heap.size w w') := fun w' hw =>
    ⟨(hw.cell (p := ⟨b, 0, none⟩) hlt).trans hc0, (hw.cell (p := ⟨b, 1, none⟩) hlt).trans hc1, (hw.cell (p := ⟨g, 0, none⟩) hltg).trans hq, (hw.cell (p := ⟨g, 1, none⟩) hltg).trans hr, hw⟩
  have HKA := Aside0.mk HK
  clear hb ht hu iht ihu HK
  go_enter Try.func31, Try.ntmps31
  go_wp2_with (first
    | ((with_reducible refine gate_dst (N := 8) rfl ?_); refine Kd.event_run rfl (run_build0 _ _ _ _ _ _) ?_)
    | ((with_reducible refine gate_dst (N := 9) rfl ?_); refine box_event rfl (N := 9) rfl (run_boxA _ _ _ _ _ _ _ _ (fun _ => false) rfl) ?_; intro go hgo w1 hbox hb; have HB := Aside0.mk hb; obtain ⟨hd0, hd1, hdq, hdr, _⟩ := HKA.out w1 hb; clear hgo hbox hb))
  go_region_held3 (fun w' => w'.cell? ⟨b, 0, none⟩ = some (.int .u8 46) ∧ w'.cell? ⟨b, 1, none⟩ = some (.slice (some ⟨g, 0, none⟩) 2 n) ∧ w'.cell? ⟨g, 0, none⟩ = some (.pointer q) ∧ w'.cell? ⟨g, 1, none⟩ = some (.pointer r) ∧ Below w.heap.size w w')
    ((refine HKA.out _ ?_; go_split_ands; (first | exact HB.out | assumption | exact below_step (by assumption) hdp | exact below_step (by assumption) hda | exact below_step (by assumption) hdb | (apply below_drew1; first | assumption | exact HB.out))))
    ((first
      | (go_at_call 31; go_split_ands; with_reducible refine (IH1 _ (by assumption)).out.mono ?_; rintro e wa ⟨⟨ga, rfl, hGa, hOa⟩, hda⟩; have NA := Aside0.mk hOa; (try (have NB2 := Aside0.mk (blk_below NB.out hda))); clear hOa hGa)
      | (go_at_call 31; go_split_ands; with_reducible refine (IH2 _ (by assumption)).out.mono ?_; rintro e wb ⟨⟨gb, rfl, hGb, hOb⟩, hdb⟩; have NB := Aside0.mk hOb; (try (have NA2 := Aside0.mk (blk_below NA.out hdb))); clear hOb hGb)
      | (go_at_call 46; go_split_ands; (first | refine (plus_calls ga gb f1 f2 _ NA2.out NB.out).mono ?_ | refine (plus_calls ga gb f1 f2 _ NA.out NB2.out).mono ?_); rintro e wp ⟨⟨gp, rfl, hGp, hOp⟩, hdp⟩; have NP := Aside0.mk hOp; have GP := Aside0.mk (Nat.le_trans ((fun h9 : Below w.heap.size w _ => h9.size) (by assumption)) hGp); clear hOp hGp)))
  all_goals
    rename_i hHeld
    obtain ⟨_, _, _, _, hBW⟩ := hHeld
    have HBW := Aside0.mk hBW
    clear hBW
    go_wp2
    go_ret
    exact ⟨⟨_, rfl, GP.out, by rw [← HE.out]; exact NP.out⟩, HBW.out⟩

set_option maxHeartbeats 16000000 in
set_option maxRecDepth 100000 in
theorem numbers_many (c : UInt8) (h42 : c ≠ 42) (h50 : 50 ≤ c.toNat) (h53 : c.toNat ≤ 53) (t : Tm) (iht : NumbersOf t) : NumbersOf (.one c t) := by
  rintro p w ⟨b, g, n, q, rfl, hb, hn, hq, ht⟩
  have hc0 : w.cell? ⟨b, 0, none⟩ = some (.int .u8 (c.toNat : Int)) := (blk_cell hb 0).trans rfl
  have hc1 : w.cell? ⟨b, 1, none⟩ = some (.slice (some ⟨g, 0, none⟩) 1 n) := (blk_cell hb 1).trans rfl
  have hlt : b < w.heap.size := blk_lt hb
  have hltg : g < w.heap.size := World.block_lt_of_cell? w _ hq
  have IH := fun w' (h : Below w.heap.size w w') => Aside0.mk (iht q w' (ht.below h))
  have HZ := fun w => Aside0.mk (zero_calls w)
  have HE := Aside0.mk (show numA (mulq (tsem t) (c.toNat - 48)) = numA (tsem (.one c t)) from by
    show _ = numA (if c = 42 then _ else _)
    rw [if_neg h42])
  generalize tsem (.one c t) = h at *
  generalize tsem t = f at *
  obtain ⟨m, hm⟩ : ∃ m, c.toNat = m + 48 := ⟨c.toNat - 48, by omega⟩
  rw [hm] at hc0 HE h50 h53
  rw [Nat.add_sub_cancel] at HE
  have hi : ((m + 48 : Nat) : Int) = (m : Int) + 48 := by omega
  rw [hi] at hc0
  have hm2 : 2 ≤ (m : Int) := by omega
  have hm5 : (m : Int) ≤ 5 := by omega
  clear hb ht iht hm h42 h50 h53 hi
  go_enter Try.func31, Try.ntmps31
  go_wp2_with (first
    | ((with_reducible refine gate_dst (N := 8) rfl ?_); refine Kd.event_run rfl (run_build0 _ _ _ _ _ _) ?_)
    | ((with_reducible refine gate_dst (N := 9) rfl ?_); refine box_event rfl (N := 9) rfl (run_boxA _ _ _ _ _ _ _ _ (fun _ => false) rfl) ?_; intro go hgo w1 hbox hb; have HB := Aside0.mk hb; have hd0 := (hb.cell (p := ⟨b, 0, none⟩) hlt).trans hc0; have hd1 := (hb.cell (p := ⟨b, 1, none⟩) hlt).trans hc1; have hdq := (hb.cell (p := ⟨g, 0, none⟩) hltg).trans hq; clear hgo hbox hb)
    | (go_at_call 31; refine (IH _ HB.out).out.mono ?_; rintro e w2 ⟨⟨ga, rfl, hGa, hO⟩, hb2⟩; have NA := Aside0.mk hO; have HB2 := Aside0.mk (below_step HB.out hb2); clear hO hGa hb2)
    | (go_at_call 44; refine (HZ _).out.mono ?_; rintro e w3 ⟨⟨gz, rfl, hG, hO⟩, hb3⟩; have NZ := Aside0.mk hO; have NA3 := Aside0.mk (blk_below NA.out hb3); have GZ := Aside0.mk (Nat.le_trans HB2.out.size hG); have HB3 := Aside0.mk (below_step HB2.out hb3); have hs3 := (HB3.out.cell (p := ⟨b, 0, none⟩) hlt).trans hc0; clear hO hG hb3))
  go_loopg [3, 27] m (fun gg s3 s27 w_ => ∃ (j go_ : Nat), j ≤ m ∧ m - j ≤ gg ∧ s27 = .int .u8 j ∧ s3 = .pointer (some ⟨go_, 0, none⟩) ∧ Aside0 (w.heap.size ≤ go_) ∧ Aside0 (w_.heap[go_]? = some (.cells (numA (mulq f j)) 70 (0, 0))) ∧ Aside0 (w_.heap[ga]? = some (.cells (numA f) 70 (0, 0))) ∧ Aside0 (Below w.heap.size w w_))
  case atStart => exact ⟨0, gz, by omega, by omega, rfl, rfl, GZ, NZ, NA3, HB3⟩
  case round =>
    obtain ⟨j, g1, hj, hgg, rfl, rfl, HG1, HO1, HA1, HW1⟩ := hrel
    rcases Nat.lt_or_ge j m with hlt2 | hge
    · have HP := Aside0.mk (plus_calls g1 ga (mulq f j) f wr HO1.out HA1.out)
      go_wp2_with (go_at_call 46; refine HP.out.mono ?_; rintro e w5 ⟨⟨g5, rfl, hG, hO⟩, hb5⟩; have NO5 := Aside0.mk hO; have NA5 := Aside0.mk (blk_below HA1.out hb5); have GZ5 := Aside0.mk (Nat.le_trans HW1.out.size hG); have HB5 := Aside0.mk (below_step HW1.out hb5); clear hO hG hb5)
      go_roundg (m - (j + 1))
      case measure => omega
      case rel => exact ⟨j + 1, g5, by omega, by omega, congrArg (Value.int .u8) (by omega), rfl, GZ5, NO5, NA5, HB5⟩
    · obtain rfl : j = m := by omega
      go_wp2
      go_ret
      exact ⟨⟨_, rfl, HG1.out, by rw [← HE.out]; exact HO1.out⟩, HW1.out⟩
theorem numbers_all : ∀ t : Tm, t.ok → NumbersOf t
  | .leaf c, h => numbers_leaf c h
  | .one c t, h => by
    rcases isO_cases h.1 with rfl | ⟨h1, h2, h3⟩
    · exact numbers_star t (numbers_all t h.2)
    · exact numbers_many c h1 h2 h3 t (numbers_all t h.2)
  | .two c t u, h => by
    rcases isT_cases h.1 with rfl | rfl | rfl
    · exact numbers_both 43 (.inl rfl) t u (numbers_all t h.2.1) (numbers_all u h.2.2)
    · exact numbers_dot t u (numbers_all t h.2.1) (numbers_all u h.2.2)
    · exact numbers_both 38 (.inr rfl) t u (numbers_all t h.2.1) (numbers_all u h.2.2)
end Go.Proofs.Ytjjnckgdpdelkaa.P

-- impl.parse reads a term from the beginning of a text.
namespace Go.Proofs.Ytjjnckgdpdelkaa.P
open Go.RowKit Go.Proofs.YtjjnckgdpdelkaaW.PrintWords Go.Proofs.YtjjnckgdpdelkaaW.PrintLast Go.Proofs.YtjjnckgdpdelkaaW.PrintMore
set_option linter.unusedVariables false
set_option linter.unusedSimpArgs false

/-- What impl.parse does: nothing is left to say, or a term and the rest of the text. -/
def ParsePost (o : Option (Tm × List UInt8)) (w : World) (e : Ending) (w' : World) : Prop := match o with
  | none => e = .returned (.tuple #[.pointer none, .string ⟨#[]⟩]) ∧ Below w.heap.size w w'
  | some (t, r) => (∃ p L, e = .returned (.tuple #[.pointer p, .string L]) ∧ chrs L = r ∧ (∀ W', Kept w' W' (fun k => k < w.heap.size) → IT W' t p)) ∧ Below w.heap.size w w'
theorem chrs_tail {s : ByteArray} {c : UInt8} {r : List UInt8} (h : chrs s = c :: r) : chrs (s.extract 1 s.size) = r := by
  rw [chrs_extract, List.take_of_length_le (by rw [chrs_length]; exact Nat.le_refl _), h]; rfl
theorem get_chr {s : ByteArray} {i : Nat} (h : i < s.size) : s[i] = (chrs s)[i]'(by rw [chrs_length]; exact h) := rfl
theorem toList_ne {s : ByteArray} (h : 0 < s.size) : s.toList.isEmpty = false := by
  rw [ByteArray.toList_eq]
  cases hl : s.data.toList with
  | nil =>
    have := chrs_length s
    unfold chrs at this
    rw [hl] at this; simp at this; omega
  | cons a l => rfl
theorem bt_get {s : ByteArray} {c : UInt8} {r : List UInt8} (h : chrs s = c :: r) (hs : 0 < s.size) : s[0] = c := by
  show (chrs s)[0]'(by rw [chrs_length]; exact hs) = c
  simp only [h, List.getElem_cons_zero]

set_option maxHeartbeats 8000000 in
set_option maxRecDepth 100000 in
theorem parse_leaf (s : ByteArray) (hs : s.size ≤ 100) (c : UInt8) (r : List UInt8) (hc : chrs s = c :: r) (hL : isL c = true) (k : Nat) (w : World) :
    Calls Try.prog 43 #[.string s] w (ParsePost (some (.leaf c, r)) w) := by
  have hsz : 0 < s.size := by rw [← chrs_length, hc]; simp
  have h0 := bt_get hc hsz
  have hne := toList_ne hsz
  have HT := Aside0.mk (chrs_tail hc)
  clear hc
  have HK := Aside0.mk (fun (W' : World) (x : Int) (hW : Kept (w.alloc (.cells #[.int .u8 x, .slice none 0 0] 73)).drew W' (fun k => k < w.heap.size)) => (show W'.heap[w.heap.size]? = some (.cells #[.int .u8 x, .slice none 0 0] 73 (0, 0)) from blk_kept (blk_drew (blk_new w _)) hW (Nat.lt_irrefl _)))
  rcases isL_cases hL with rfl | rfl | rfl
  all_goals
    go_enter Try.func43, Try.ntmps43
    go_wp2_with fail
    go_region
    go_wp2_with fail
    go_ret2
    exact ⟨⟨_, _, rfl, HT.out, fun W' hW => ⟨w.heap.size, none, 0, rfl, HK.out W' _ hW⟩⟩, below_drew1 (below_alloc (Below.refl _ _) _)⟩

set_option maxHeartbeats 8000000 in
set_option maxRecDepth 100000 in
theorem parse_empty (s : ByteArray) (hs : chrs s = []) (w : World) :
    Calls Try.prog 43 #[.string s] w (ParsePost none w) := by
  have h0 : s.toList = [] := by rw [ByteArray.toList_eq]; exact hs
  go_enter Try.func43, Try.ntmps43
  go_wp2_with fail
  go_ret2
  exact ⟨rfl, Below.refl _ _⟩

set_option maxHeartbeats 8000000 in
set_option maxRecDepth 100000 in
theorem parse_other (s : ByteArray) (hs : s.size ≤ 100) (c : UInt8) (r : List UInt8) (hc : chrs s = c :: r) (h1 : isL c = false) (h2 : isO c = false) (h3 : c ≠ 40) (w : World) :
    Calls Try.prog 43 #[.string s] w (ParsePost none w) := by
  have hsz : 0 < s.size := by rw [← chrs_length, hc]; simp
  have h0 := bt_get hc hsz
  have hne := toList_ne hsz
  have hn : ¬ c.toNat = 48 ∧ ¬ c.toNat = 49 ∧ ¬ c.toNat = 97 ∧ ¬ c.toNat = 42 ∧ ¬ c.toNat = 40 ∧ ¬ (50 ≤ c.toNat ∧ c.toNat ≤ 53) := by
    have q : ∀ d : UInt8, c.toNat = d.toNat → c = d := fun d h => UInt8.toNat_inj.1 h
    refine ⟨fun h => ?_, fun h => ?_, fun h => ?_, fun h => ?_, fun h => h3 (q 40 h), fun h => ?_⟩
    · rw [q 48 h] at h1; cases h1
    · rw [q 49 h] at h1; cases h1
    · rw [q 97 h] at h1; cases h1
    · rw [q 42 h] at h2; cases h2
    · unfold isO at h2
      rw [Bool.or_eq_false_iff, Bool.and_eq_false_iff, decide_eq_false_iff_not, decide_eq_false_iff_not] at h2
      omega
  obtain ⟨n1, n2, n3, n4, n5, n6⟩ := hn
  have m1 : ((c.toNat : Int) == 48) = false := by rw [beq_eq_false_iff_ne]; omega
  have m2 : ((c.toNat : Int) == 49) = false := by rw [beq_eq_false_iff_ne]; omega
  have m3 : ((c.toNat : Int) == 97) = false := by rw [beq_eq_false_iff_ne]; omega
  have m4 : ((c.toNat : Int) == 42) = false := by rw [beq_eq_false_iff_ne]; omega
  have m5 : ((c.toNat : Int) == 40) = false := by rw [beq_eq_false_iff_ne]; omega
  have hin := in_f (c.toNat : Int) 50 53
  rw [decide_eq_false (by omega)] at hin
  have HI := fun w => Aside0.mk (impl_in.calls (c.toNat : Int) 50 53 false w hin)
  have hlt : c.toNat < 256 := c.toNat_lt
  clear hc h1 h2 h3 hin n1 n2 n3 n4 n5 n6
  go_enter Try.func43, Try.ntmps43
  go_wp2_with (go_at_call 30; refine (HI _).out.mono ?_; rintro e w1 ⟨rfl, ⟨nq, rfl⟩⟩)
  go_ret2
  exact ⟨rfl, pw_below_drewN (below_alloc (Below.refl _ _) _) _⟩
end Go.Proofs.Ytjjnckgdpdelkaa.P

-- impl.parse at a sign ahead of a term.
namespace Go.Proofs.Ytjjnckgdpdelkaa.P
open Go.RowKit Go.Proofs.YtjjnckgdpdelkaaW.PrintWords Go.Proofs.YtjjnckgdpdelkaaW.PrintLast Go.Proofs.YtjjnckgdpdelkaaW.PrintMore
set_option linter.unusedVariables false
set_option linter.unusedSimpArgs false

/-- Pointers, as elements of a row. -/
def kptr : Kd (Option Addr) := Kd.scalar Value.pointer (fun _ => rfl)
theorem infoPtr : (Try.prog.info? 49).map (fun i => (i.zero, i.size, i.bytes)) = some (some (.pointer none), 1, 8) := by kernel_rfl
theorem kptr_cell {xs : List (Option Addr)} {e base g cap : Nat} {ok : Nat → Prop} {W : World} (h : kptr.R e W base ok (.slice (some ⟨g, 0, none⟩) xs.length cap) xs) (i : Nat) (hi : i < xs.length) : W.cell? ⟨g, i, none⟩ = some (.pointer (xs.getD i none)) := by
  have := (Kd.R_cell (none : Option Addr) (h1 := fun _ => rfl) (enc := Value.pointer) h (i : Int) (by omega) (by omega)).1
  rw [Int.toNat_natCast] at this
  rw [this]; simp [rdOf]
/-- A term that is read: it stands whatever becomes of what was there before. -/
def PDone (w : World) (b : Nat) (tm : Tm) (wr : World) : Prop := (∀ W', Kept wr W' (fun k => k < w.heap.size) → IT W' tm (some ⟨b, 0, none⟩)) ∧ Below w.heap.size w wr

theorem pdone_one {w wr w2 w3 : World} {c : UInt8} {t : Tm} {b2 g1 n1 : Nat} {cells1 : Array Value} (HR : wr.heap[w.heap.size]? = some (.cells #[.int .u8 (c.toNat : Int), .slice none 0 0] 73 (0, 0))) (HW : Below w.heap.size w wr)
    (HIT : ∀ W', Kept w2 W' (fun k => k < wr.heap.size) → IT W' t (some ⟨b2, 0, none⟩)) (BR : w3.heap[w.heap.size]? = some (.cells #[.int .u8 (c.toNat : Int), .slice none 0 0] 73 (0, 0)))
    (RO : kptr.R 49 w3 w.heap.size (fun _ => True) (.slice (some ⟨g1, 0, none⟩) ([] ++ [some (⟨b2, 0, none⟩ : Addr)]).length n1) ([] ++ [some ⟨b2, 0, none⟩])) (RB : Below w.heap.size w w3) (RG : w2.grownBy w3 (Value.slice none 0 0).ownBlock) (RC : w3.heap[g1]? = some (.cells cells1 49 (0, 0))) :
    PDone w w.heap.size (.one c t) (w3.setCell ⟨w.heap.size, 1, none⟩ (.slice (some ⟨g1, 0, none⟩) 1 n1)) := by
  have hne : w.heap.size ≠ g1 := blk_ne BR RC (by decide)
  have hg1 : w.heap.size ≤ g1 := (Kd.R_base RO) g1 (by simp [Value.ownBlock])
  have hn1 : 1 ≤ n1 := (Kd.R_reads' RO).2.1
  have hc := kptr_cell RO 0 (by simp)
  have BE := blk_put BR 1 (.slice (some ⟨g1, 0, none⟩) 1 n1) rfl
  have CE : (w3.setCell ⟨w.heap.size, 1, none⟩ (.slice (some ⟨g1, 0, none⟩) 1 n1)).heap[g1]? = some (.cells cells1 49 (0, 0)) := blk_far RC (fun e => hne e.symm) _
  have K1 : Kept w2 (w3.setCell ⟨w.heap.size, 1, none⟩ (.slice (some ⟨g1, 0, none⟩) 1 n1)) (fun k => k < wr.heap.size) :=
    (Kept.of_grown RG (Kept.refl w2 _) (fun k e => by simp [Value.ownBlock] at e)).setCell (.inl (blk_lt HR)) _
  refine ⟨fun W' hW => ⟨w.heap.size, g1, n1, some ⟨b2, 0, none⟩, rfl, blk_kept BE hW (Nat.lt_irrefl _), hn1, ?_, HIT W' (K1.then_ hW (fun k hk => .inl (Nat.lt_of_lt_of_le hk HW.size)))⟩, below_set RB (Nat.le_refl _)⟩
  rw [blk_cell (blk_kept CE hW (by omega)) 0, ← blk_cell RC 0, hc]; rfl
/-- What a sign ahead of a term makes of what is read behind it. -/
def oneO (c : UInt8) : Option (Tm × List UInt8) → Option (Tm × List UInt8)
  | none => none
  | some (t, r) => some (.one c t, r)
/-- What holds between the rounds of a sign ahead of one term. -/
def OneRel (k : Nat) (r : List UInt8) (c : UInt8) (s1 : ByteArray) (w : World) (gg : Nat) (s6 s51 : Value) (w_ : World) : Prop :=
  (2 ≤ gg ∧ s51 = .int .i64 0 ∧ s6 = .string s1 ∧ Aside0 (w_.heap[w.heap.size]? = some (.cells #[.int .u8 (c.toNat : Int), .slice none 0 0] 73 (0, 0))) ∧ Aside0 (Below w.heap.size w w_)) ∨
  (s51 = .int .i64 1 ∧ ∃ t r' L, Aside0 (prs k r = some (t, r')) ∧ s6 = .string L ∧ Aside0 (chrs L = r') ∧ Aside0 (PDone w w.heap.size (.one c t) w_))
set_option maxHeartbeats 16000000 in
set_option maxRecDepth 100000 in
theorem parse_one (k : Nat) (s : ByteArray) (hs : s.size ≤ 100) (c : UInt8) (r : List UInt8) (hc : chrs s = c :: r) (hO : isO c = true)
    (IH : ∀ (s' : ByteArray) (w' : World), chrs s' = r → Calls Try.prog 43 #[.string s'] w' (ParsePost (prs k (chrs s')) w')) (w : World) :
    Calls Try.prog 43 #[.string s] w (ParsePost (oneO c (prs k r)) w) := by
  obtain ⟨O, hO9⟩ : ∃ O, oneO c (prs k r) = O := ⟨_, rfl⟩
  rw [hO9]
  have HO9 := Aside0.mk hO9
  clear hO9
  have hsz : 0 < s.size := by rw [← chrs_length, hc]; simp
  have h0 := bt_get hc hsz
  have hne := toList_ne hsz
  have HT := Aside0.mk (chrs_tail hc)
  have HI := fun w' => Aside0.mk (IH (s.extract 1 s.size) w' HT.out)
  rw [HT.out] at HI
  have hlt : c.toNat < 256 := c.toNat_lt
  have hin : impl_in.f (c.toNat : Int) 50 53 = some (decide (50 ≤ (c.toNat : Int) ∧ (c.toNat : Int) ≤ 53)) := in_f _ _ _
  have hmm : (((c.toNat : Int) == 48) = false ∧ ((c.toNat : Int) == 49) = false ∧ ((c.toNat : Int) == 97) = false) ∧ (((c.toNat : Int) == 42) = true ∨ (((c.toNat : Int) == 42) = false ∧ decide (50 ≤ (c.toNat : Int) ∧ (c.toNat : Int) ≤ 53) = true)) := by
    rcases isO_cases hO with rfl | ⟨h1, h2, h3⟩
    · exact ⟨⟨rfl, rfl, rfl⟩, .inl rfl⟩
    · refine ⟨⟨?_, ?_, ?_⟩, .inr ⟨?_, decide_eq_true (by omega)⟩⟩
      all_goals rw [beq_eq_false_iff_ne]; omega
  obtain ⟨⟨m1, m2, m3⟩, hm4⟩ := hmm
  clear IH hc hO
  rcases hm4 with m4 | ⟨m4, m5⟩
  · clear hin
    go_enter Try.func43, Try.ntmps43
    go_wp2_with fail
    go_loopg [6, 51] 2 (fun gg s6 s51 w_ => OneRel k r c (s.extract 1 s.size) w gg s6 s51 w_)
    case atStart => exact .inl ⟨by omega, rfl, rfl, ⟨blk_new w _⟩, ⟨below_alloc (Below.refl _ _) _⟩⟩
    case round =>
      rcases hrel with ⟨hgg, rfl, rfl, HR, HW⟩ | ⟨rfl, t, r', L, HP, rfl, HL, HD⟩
      · have hq0 : wr.cell? ⟨w.heap.size, 1, none⟩ = some (.slice none 0 0) := (blk_cell HR.out 1).trans rfl
        cases hp : prs k r with
        | none =>
          rw [hp] at HI
          have HPN := Aside0.mk hp
          clear hp hq0
          go_wp2_with (go_at_call 43; refine (HI _).out.mono ?_; rintro e w2 ⟨rfl, hb2⟩; have HB2 := Aside0.mk (below_step HW.out hb2); clear hb2)
          obtain rfl : O = none := by rw [← HO9.out, HPN.out]; rfl
          go_ret2
          exact ⟨rfl, HB2.out⟩
        | some x =>
          obtain ⟨t, r'⟩ := x
          rw [hp] at HI
          have HPS := Aside0.mk hp
          clear hp hq0
          go_wp2_with (first
            | (go_at_call 43; refine (HI _).out.mono ?_; rintro e w2 ⟨⟨p, L, rfl, hL, hIT⟩, hb2⟩; obtain ⟨b2, rfl, hlt2⟩ := (hIT w2 (Kept.refl _ _)).some; have HB2 := Aside0.mk (below_step HW.out hb2); have HR2 := Aside0.mk (blk_below HR.out hb2); have HIT := Aside0.mk hIT; have HLL := Aside0.mk hL; have hq1 : w2.cell? ⟨w.heap.size, 1, none⟩ = some (.slice none 0 0) := (blk_cell HR2.out 1).trans rfl; clear hb2 hIT hL hlt2)
            | ((with_reducible refine gate_builtin (b := .append) (xs := #[.tmp 65, .tmp 67]) rfl ?_); at_builtin; go_loud (refine Kd.R_append kptr (w0 := w) w.heap.size rfl (.tmp 65) (.tmp 67) 71 49 (.pointer none) 8 rfl Try.underlying71 infoPtr rfl (by decide) (by omega) (.slice none 0 0) [] (some ⟨b2, 0, none⟩) [.pointer (some ⟨b2, 0, none⟩)] (fun _ => True) (fun _ => False) rfl rfl ?aP (fun _ hk => hk.elim) ?aF (Kd.R_nil _ _ _ _ _) HB2.out ?aS ?aL ?_; (case aP => exact rfl); (case aF => exact fun _ _ => trivial); (case aS => exact HB2.out.size); (case aL => simp); intro v1 w3 ho hb hg hat; obtain ⟨g1, n1, hv1, hg1, hl1, hcs1⟩ := Kd.R_form ho (by simp); subst hv1; have hr1 := (Kd.R_reads' ho).2.1; have BR := Aside0.mk (blk_grown HR2.out hg (by simp [Value.ownBlock])); have hq3 : w3.cell? ⟨w.heap.size, 1, none⟩ = some (.slice none 0 0) := (blk_cell BR.out 1).trans rfl; have hz3 : w3.frozen? ⟨w.heap.size, 1, none⟩ = false := blk_frozen BR.out 1; have RO := Aside0.mk ho; have RB := Aside0.mk hb; have RG := Aside0.mk hg; have RL := Aside0.mk hr1; obtain ⟨cells1, hcells1⟩ := hcs1; have RC := Aside0.mk hcells1; have RG1 := Aside0.mk hg1; have hne1 := blk_ne BR.out RC.out (by decide); clear hcells1 ho hb hg hat hr1 hg1 hl1)))
          go_roundg 1
          case measure => omega
          case rel => exact .inr ⟨by first | rfl | (simp; done), t, r', L, HPS, rfl, HLL, ⟨pdone_one HR.out HW.out HIT.out BR.out RO.out RB.out RG.out RC.out⟩⟩
      · obtain rfl : O = some (.one c t, r') := by rw [← HO9.out, HP.out]; rfl
        go_wp2_with fail
        go_ret2
        exact ⟨⟨_, L, rfl, HL.out, HD.out.1⟩, HD.out.2⟩
  · rw [m5] at hin
    have HIN := fun w => Aside0.mk (impl_in.calls (c.toNat : Int) 50 53 true w hin)
    clear hin m5
    go_enter Try.func43, Try.ntmps43
    go_wp2_with (go_at_call 30; refine (HIN _).out.mono ?_; rintro e w1 ⟨rfl, ⟨nq, rfl⟩⟩)
    go_loopg [6, 51] 2 (fun gg s6 s51 w_ => OneRel k r c (s.extract 1 s.size) w gg s6 s51 w_)
    case atStart => exact .inl ⟨by omega, rfl, rfl, ⟨blk_drewN (blk_new w _) nq⟩, ⟨pw_below_drewN (below_alloc (Below.refl _ _) _) nq⟩⟩
    case round =>
      rcases hrel with ⟨hgg, rfl, rfl, HR, HW⟩ | ⟨rfl, t, r', L, HP, rfl, HL, HD⟩
      · have hq0 : wr.cell? ⟨w.heap.size, 1, none⟩ = some (.slice none 0 0) := (blk_cell HR.out 1).trans rfl
        cases hp : prs k r with
        | none =>
          rw [hp] at HI
          have HPN := Aside0.mk hp
          clear hp hq0
          go_wp2_with (go_at_call 43; refine (HI _).out.mono ?_; rintro e w2 ⟨rfl, hb2⟩; have HB2 := Aside0.mk (below_step HW.out hb2); clear hb2)
          obtain rfl : O = none := by rw [← HO9.out, HPN.out]; rfl
          go_ret2
          exact ⟨rfl, HB2.out⟩
        | some x =>
          obtain ⟨t, r'⟩ := x
          rw [hp] at HI
          have HPS := Aside0.mk hp
          clear hp hq0
          go_wp2_with (first
            | (go_at_call 43; refine (HI _).out.mono ?_; rintro e w2 ⟨⟨p, L, rfl, hL, hIT⟩, hb2⟩; obtain ⟨b2, rfl, hlt2⟩ := (hIT w2 (Kept.refl _ _)).some; have HB2 := Aside0.mk (below_step HW.out hb2); have HR2 := Aside0.mk (blk_below HR.out hb2); have HIT := Aside0.mk hIT; have HLL := Aside0.mk hL; have hq1 : w2.cell? ⟨w.heap.size, 1, none⟩ = some (.slice none 0 0) := (blk_cell HR2.out 1).trans rfl; clear hb2 hIT hL hlt2)
            | ((with_reducible refine gate_builtin (b := .append) (xs := #[.tmp 65, .tmp 67]) rfl ?_); at_builtin; go_loud (refine Kd.R_append kptr (w0 := w) w.heap.size rfl (.tmp 65) (.tmp 67) 71 49 (.pointer none) 8 rfl Try.underlying71 infoPtr rfl (by decide) (by omega) (.slice none 0 0) [] (some ⟨b2, 0, none⟩) [.pointer (some ⟨b2, 0, none⟩)] (fun _ => True) (fun _ => False) rfl rfl ?aP (fun _ hk => hk.elim) ?aF (Kd.R_nil _ _ _ _ _) HB2.out ?aS ?aL ?_; (case aP => exact rfl); (case aF => exact fun _ _ => trivial); (case aS => exact HB2.out.size); (case aL => simp); intro v1 w3 ho hb hg hat; obtain ⟨g1, n1, hv1, hg1, hl1, hcs1⟩ := Kd.R_form ho (by simp); subst hv1; have hr1 := (Kd.R_reads' ho).2.1; have BR := Aside0.mk (blk_grown HR2.out hg (by simp [Value.ownBlock])); have hq3 : w3.cell? ⟨w.heap.size, 1, none⟩ = some (.slice none 0 0) := (blk_cell BR.out 1).trans rfl; have hz3 : w3.frozen? ⟨w.heap.size, 1, none⟩ = false := blk_frozen BR.out 1; have RO := Aside0.mk ho; have RB := Aside0.mk hb; have RG := Aside0.mk hg; have RL := Aside0.mk hr1; obtain ⟨cells1, hcells1⟩ := hcs1; have RC := Aside0.mk hcells1; have RG1 := Aside0.mk hg1; have hne1 := blk_ne BR.out RC.out (by decide); clear hcells1 ho hb hg hat hr1 hg1 hl1)))
          go_roundg 1
          case measure => omega
          case rel => exact .inr ⟨by first | rfl | (simp; done), t, r', L, HPS, rfl, HLL, ⟨pdone_one HR.out HW.out HIT.out BR.out RO.out RB.out RG.out RC.out⟩⟩
      · obtain rfl : O = some (.one c t, r') := by rw [← HO9.out, HP.out]; rfl
        go_wp2_with fail
        go_ret2
        exact ⟨⟨_, L, rfl, HL.out, HD.out.1⟩, HD.out.2⟩
end Go.Proofs.Ytjjnckgdpdelkaa.P

-- Two terms between brackets: what stands when one, and when both, are read.
namespace Go.Proofs.Ytjjnckgdpdelkaa.P
open Go.RowKit Go.Proofs.YtjjnckgdpdelkaaW.PrintWords Go.Proofs.YtjjnckgdpdelkaaW.PrintLast Go.Proofs.YtjjnckgdpdelkaaW.PrintMore
set_option linter.unusedVariables false
set_option linter.unusedSimpArgs false

/-- What two terms between brackets come to. -/
def twoB (a : Tm) (d : UInt8) : Option (Tm × List UInt8) → Option (Tm × List UInt8)
  | none => none
  | some (_, []) => none
  | some (b, e :: r3) => if e = 41 then some (.two d a b, r3) else none
def twoO (P : List UInt8 → Option (Tm × List UInt8)) : Option (Tm × List UInt8) → Option (Tm × List UInt8)
  | none => none
  | some (_, []) => none
  | some (a, d :: r1) => if isT d = true then twoB a d (P r1) else none
theorem prs_leaf {k : Nat} {c : UInt8} {s : List UInt8} (h : isL c = true) : prs (k + 1) (c :: s) = some (.leaf c, s) := by rw [prs, if_pos h]
theorem prs_one {k : Nat} {c : UInt8} {s : List UInt8} (h : isO c = true) : prs (k + 1) (c :: s) = oneO c (prs k s) := by
  rw [prs, if_neg (by rw [isO_notL h]; decide), if_pos h]
  cases prs k s with
  | none => rfl
  | some x => obtain ⟨t, r⟩ := x; rfl
theorem prs_two {k : Nat} {s : List UInt8} : prs (k + 1) (40 :: s) = twoO (prs k) (prs k s) := by
  rw [prs, if_neg (by decide), if_neg (by decide), if_pos rfl]
  cases prs k s with
  | none => rfl
  | some x =>
    obtain ⟨a, r⟩ := x
    cases r with
    | nil => rfl
    | cons d r1 =>
      show (if isT d = true then _ else none) = (if isT d = true then _ else none)
      by_cases hT : isT d = true
      · rw [if_pos hT, if_pos hT]
        cases prs k r1 with
        | none => rfl
        | some y =>
          obtain ⟨b, r2⟩ := y
          cases r2 with
          | nil => rfl
          | cons e r3 => rfl
      · rw [if_neg hT, if_neg hT]
theorem prs_other {k : Nat} {c : UInt8} {s : List UInt8} (h1 : isL c = false) (h2 : isO c = false) (h3 : c ≠ 40) : prs (k + 1) (c :: s) = none := by
  rw [prs, if_neg (by rw [h1]; decide), if_neg (by rw [h2]; decide), if_neg h3]
theorem con_plus {a1 : ByteArray} {d : UInt8} (h : chrs a1 = [d]) : strings_Contains.f ⟨#[43, 46, 38]⟩ a1 = some (isT d) := by
  unfold strings_Contains.f strings_Index.f stringslite_Index.f
  rw [if_pos (by rw [← chrs_length, h]; rfl), h, Option.bind_some, Option.bind_some]
  show some (decide ((if [43, 46, 38].findIdx (· == d) < 3 then (([43, 46, 38].findIdx (· == d) : Nat) : Int) else -1) ≥ 0)) = some (isT d)
  by_cases h1 : d = 43
  · subst h1; rfl
  · by_cases h2 : d = 46
    · subst h2; rfl
    · by_cases h3 : d = 38
      · subst h3; rfl
      · have e1 : ((43 : UInt8) == d) = false := by rw [beq_eq_false_iff_ne]; exact fun h => h1 h.symm
        have e2 : ((46 : UInt8) == d) = false := by rw [beq_eq_false_iff_ne]; exact fun h => h2 h.symm
        have e3 : ((38 : UInt8) == d) = false := by rw [beq_eq_false_iff_ne]; exact fun h => h3 h.symm
        have e4 : isT d = false := by unfold isT; simp [h1, h2, h3]
        rw [e4]
        simp [List.findIdx_cons, e1, e2, e3]
theorem con_shut {a1 : ByteArray} {d : UInt8} (h : chrs a1 = [d]) : strings_Contains.f ⟨#[41]⟩ a1 = some (d == 41) := by
  unfold strings_Contains.f strings_Index.f stringslite_Index.f
  rw [if_pos (by rw [← chrs_length, h]; rfl), h, Option.bind_some, Option.bind_some]
  show some (decide ((if [41].findIdx (· == d) < 1 then (([41].findIdx (· == d) : Nat) : Int) else -1) ≥ 0)) = some (d == 41)
  by_cases h1 : d = 41
  · subst h1; rfl
  · have e1 : ((41 : UInt8) == d) = false := by rw [beq_eq_false_iff_ne]; exact fun h => h1 h.symm
    have e2 : (d == 41) = false := by rw [beq_eq_false_iff_ne]; exact h1
    rw [e2]
    simp [List.findIdx_cons, e1]
theorem chrs_head {s : ByteArray} {c : UInt8} {r : List UInt8} (h : chrs s = c :: r) : chrs (s.extract 0 1) = [c] := by
  rw [chrs_extract, h]; rfl
/-- One term is read, and it stands whatever becomes of the record, of the row, and of what was there before. -/
def TwoMid (w : World) (d : UInt8) (a : Tm) (wr : World) : Prop := ∃ g1 n1 pa, wr.heap[w.heap.size]? = some (.cells #[.int .u8 (d.toNat : Int), .slice (some ⟨g1, 0, none⟩) 1 n1] 73 (0, 0)) ∧
  kptr.R 49 wr w.heap.size (fun _ => True) (.slice (some ⟨g1, 0, none⟩) [pa].length n1) [pa] ∧ (∀ W', Kept wr W' (fun k => k < w.heap.size ∨ k = w.heap.size ∨ k = g1) → IT W' a pa) ∧ Below w.heap.size w wr
theorem TwoMid.below {w wr w' : World} {d : UInt8} {a : Tm} (h : TwoMid w d a wr) (hb : Below wr.heap.size wr w') : TwoMid w d a w' := by
  obtain ⟨g1, n1, pa, h1, h2, h3, h4⟩ := h
  exact ⟨g1, n1, pa, blk_below h1 hb, Kd.R_below h2 hb, fun W' hW => h3 W' ((Kept.of_below hb _).then_ hW (fun k hk => .inl hk)), below_step h4 hb⟩
theorem TwoMid.sign {w wr : World} {c d : UInt8} {a : Tm} (h : TwoMid w c a wr) : TwoMid w d a (wr.setCell ⟨w.heap.size, 0, none⟩ (.int .u8 (d.toNat : Int))) := by
  obtain ⟨g1, n1, pa, h1, h2, h3, h4⟩ := h
  exact ⟨g1, n1, pa, blk_put h1 0 _ rfl, Kd.R_set h2 h1 (fun q hq => by simp [kptr, Kd.scalar] at hq; omega) 0 _, fun W' hW => h3 W' (((Kept.refl wr _).setCell (.inl (.inr (.inl rfl))) _).then_ hW (fun k hk => .inl hk)), below_set h4 (Nat.le_refl _)⟩
theorem PDone.below {w wr w' : World} {b : Nat} {tm : Tm} (h : PDone w b tm wr) (hb : Below wr.heap.size wr w') : PDone w b tm w' :=
  ⟨fun W' hW => h.1 W' ((Kept.of_below hb _).then_ hW (fun k hk => .inl hk)), below_step h.2 hb⟩
theorem twoMid_start {w wr w2 w3 : World} {c : UInt8} {t : Tm} {b2 g1 n1 : Nat} {cells1 : Array Value} (HR : wr.heap[w.heap.size]? = some (.cells #[.int .u8 (c.toNat : Int), .slice none 0 0] 73 (0, 0))) (HW : Below w.heap.size w wr)
    (HIT : ∀ W', Kept w2 W' (fun k => k < wr.heap.size) → IT W' t (some ⟨b2, 0, none⟩)) (BR : w3.heap[w.heap.size]? = some (.cells #[.int .u8 (c.toNat : Int), .slice none 0 0] 73 (0, 0)))
    (RO : kptr.R 49 w3 w.heap.size (fun _ => True) (.slice (some ⟨g1, 0, none⟩) ([] ++ [some (⟨b2, 0, none⟩ : Addr)]).length n1) ([] ++ [some ⟨b2, 0, none⟩])) (RB : Below w.heap.size w w3) (RG : w2.grownBy w3 (Value.slice none 0 0).ownBlock) (RC : w3.heap[g1]? = some (.cells cells1 49 (0, 0))) (h2 : w2.heap.size ≤ g1) :
    TwoMid w c t (w3.setCell ⟨w.heap.size, 1, none⟩ (.slice (some ⟨g1, 0, none⟩) 1 n1)) := by
  have BE := blk_put BR 1 (.slice (some ⟨g1, 0, none⟩) 1 n1) rfl
  have K1 : Kept w2 (w3.setCell ⟨w.heap.size, 1, none⟩ (.slice (some ⟨g1, 0, none⟩) 1 n1)) (fun k => k < wr.heap.size) :=
    (Kept.of_grown RG (Kept.refl w2 _) (fun k e => by simp [Value.ownBlock] at e)).setCell (.inl (blk_lt HR)) _
  refine ⟨g1, n1, some ⟨b2, 0, none⟩, BE, Kd.R_set RO BR (fun q hq => by simp [kptr, Kd.scalar] at hq; omega) 1 _, fun W' hW => HIT W' (K1.then_ hW (fun k hk => ?_)), below_set RB (Nat.le_refl _)⟩
  rcases hk with hk | hk | hk
  · exact .inl (Nat.lt_of_lt_of_le hk HW.size)
  · exact .inl (by rw [hk]; exact blk_lt HR)
  · exact .inr (by rw [hk]; exact h2)
theorem pdone_two {w wr w2 w3 : World} {d : UInt8} {a b : Tm} {g1 n1 g3 n3 : Nat} {pa pb : Option Addr} (h1 : wr.heap[w.heap.size]? = some (.cells #[.int .u8 (d.toNat : Int), .slice (some ⟨g1, 0, none⟩) 1 n1] 73 (0, 0)))
    (h2 : kptr.R 49 wr w.heap.size (fun _ => True) (.slice (some ⟨g1, 0, none⟩) [pa].length n1) [pa]) (h3 : ∀ W', Kept wr W' (fun k => k < w.heap.size ∨ k = w.heap.size ∨ k = g1) → IT W' a pa) (h4 : Below w.heap.size w wr)
    (hb2 : Below wr.heap.size wr w2) (HIT : ∀ W', Kept w2 W' (fun k => k < wr.heap.size) → IT W' b pb)
    (RO : kptr.R 49 w3 w.heap.size (fun _ => True) (.slice (some ⟨g3, 0, none⟩) ([pa] ++ [pb]).length n3) ([pa] ++ [pb])) (RB : Below w.heap.size w w3) (RG : w2.grownBy w3 (Value.slice (some ⟨g1, 0, none⟩) 1 n1).ownBlock) :
    PDone w w.heap.size (.two d a b) (w3.setCell ⟨w.heap.size, 1, none⟩ (.slice (some ⟨g3, 0, none⟩) 2 n3)) := by
  obtain ⟨c1, hc1⟩ := Kd.R_typed h2 g1 rfl
  have hne1 : w.heap.size ≠ g1 := blk_ne h1 hc1 (by decide)
  have B2 := blk_below h1 hb2
  have B3 := blk_grown B2 RG (by simp [Value.ownBlock, hne1])
  obtain ⟨c3, hc3⟩ := Kd.R_typed RO g3 rfl
  have hne3 : w.heap.size ≠ g3 := blk_ne B3 hc3 (by decide)
  have hg3 : w.heap.size ≤ g3 := (Kd.R_base RO) g3 (by simp [Value.ownBlock])
  have hn3 : 2 ≤ n3 := (Kd.R_reads' RO).2.1
  have p0 := kptr_cell RO 0 (by simp)
  have p1 := kptr_cell RO 1 (by simp)
  have BE := blk_put B3 1 (.slice (some ⟨g3, 0, none⟩) 2 n3) rfl
  have CE : (w3.setCell ⟨w.heap.size, 1, none⟩ (.slice (some ⟨g3, 0, none⟩) 2 n3)).heap[g3]? = some (.cells c3 49 (0, 0)) := blk_far hc3 (fun e => hne3 e.symm) _
  have KA : Kept wr (w3.setCell ⟨w.heap.size, 1, none⟩ (.slice (some ⟨g3, 0, none⟩) 2 n3)) (fun k => k < w.heap.size ∨ k = w.heap.size ∨ k = g1) :=
    (Kept.of_grown RG (Kept.of_below hb2 _) (fun k e => .inl (.inr (.inr (by simpa [Value.ownBlock] using e.symm))))).setCell (.inl (.inr (.inl rfl))) _
  have KB : Kept w2 (w3.setCell ⟨w.heap.size, 1, none⟩ (.slice (some ⟨g3, 0, none⟩) 2 n3)) (fun k => k < wr.heap.size) :=
    (Kept.of_grown RG (Kept.refl w2 _) (fun k e => .inl (by rw [show k = g1 by simpa [Value.ownBlock] using e.symm]; exact blk_lt hc1))).setCell (.inl (blk_lt h1)) _
  refine ⟨fun W' hW => ⟨w.heap.size, g3, n3, pa, pb, rfl, blk_kept BE hW (Nat.lt_irrefl _), hn3, ?_, ?_, h3 W' (KA.then_ hW (fun k hk => .inl (.inl hk))), HIT W' (KB.then_ hW (fun k hk => .inl (Nat.lt_of_lt_of_le hk h4.size)))⟩, below_set RB (Nat.le_refl _)⟩
  · rw [blk_cell (blk_kept CE hW (by omega)) 0, ← blk_cell hc3 0, p0]; rfl
  · rw [blk_cell (blk_kept CE hW (by omega)) 1, ← blk_cell hc3 1, p1]; rfl
end Go.Proofs.Ytjjnckgdpdelkaa.P

-- impl.parse at a bracket: two terms and a sign between.
namespace Go.Proofs.Ytjjnckgdpdelkaa.P
open Go.RowKit Go.Proofs.YtjjnckgdpdelkaaW.PrintWords Go.Proofs.YtjjnckgdpdelkaaW.PrintLast Go.Proofs.YtjjnckgdpdelkaaW.PrintMore
set_option linter.unusedVariables false
set_option linter.unusedSimpArgs false

/-- What holds between the rounds of two terms. -/
def TwoRel (k : Nat) (r : List UInt8) (s1 : ByteArray) (w : World) (gg : Nat) (s6 s51 : Value) (w_ : World) : Prop :=
  (3 ≤ gg ∧ s51 = .int .i64 0 ∧ s6 = .string s1 ∧ Aside0 (w_.heap[w.heap.size]? = some (.cells #[.int .u8 ((40 : UInt8).toNat : Int), .slice none 0 0] 73 (0, 0))) ∧ Aside0 (Below w.heap.size w w_)) ∨
  ((2 ≤ gg ∧ s51 = .int .i64 1 ∧ ∃ a d r1 L, Aside0 (prs k r = some (a, d :: r1) ∧ isT d = true) ∧ s6 = .string L ∧ Aside0 (chrs L = r1) ∧ Aside0 (TwoMid w d a w_)) ∨
  (s51 = .int .i64 2 ∧ ∃ tm r3 L, Aside0 (twoO (prs k) (prs k r) = some (tm, r3)) ∧ s6 = .string L ∧ Aside0 (chrs L = r3) ∧ Aside0 (PDone w w.heap.size tm w_)))

set_option maxHeartbeats 32000000 in
set_option maxRecDepth 100000 in
theorem parse_two (k : Nat) (s : ByteArray) (hs : s.size ≤ 100) (r : List UInt8) (hc : chrs s = 40 :: r)
    (IH : ∀ (s' : ByteArray) (w' : World), s'.size ≤ r.length → Calls Try.prog 43 #[.string s'] w' (ParsePost (prs k (chrs s')) w')) (w : World) :
    Calls Try.prog 43 #[.string s] w (ParsePost (twoO (prs k) (prs k r)) w) := by
  obtain ⟨O, hO9⟩ : ∃ O, twoO (prs k) (prs k r) = O := ⟨_, rfl⟩
  rw [hO9]
  have HO9 := Aside0.mk hO9
  clear hO9
  have hsz : 0 < s.size := by rw [← chrs_length, hc]; simp
  have h0 := bt_get hc hsz
  have hne := toList_ne hsz
  have HT := Aside0.mk (chrs_tail hc)
  have HI := fun w' => Aside0.mk (IH (s.extract 1 s.size) w' (by rw [← chrs_length, HT.out]; exact Nat.le_refl _))
  rw [HT.out] at HI
  have HIA := Aside0.mk IH
  have HS := Aside0.mk hs
  clear IH hc hs
  go_enter Try.func43, Try.ntmps43
  go_wp2_with (go_at_call 30; refine (impl_in.calls 40 50 53 false _ rfl).mono ?_; rintro e w1 ⟨rfl, ⟨nq, rfl⟩⟩)
  go_loopg [6, 51] 3 (fun gg s6 s51 w_ => TwoRel k r (s.extract 1 s.size) w gg s6 s51 w_)
  case atStart => exact .inl ⟨by omega, rfl, rfl, ⟨blk_drewN (blk_new w _) nq⟩, ⟨pw_below_drewN (below_alloc (Below.refl _ _) _) nq⟩⟩
  case round =>
    rcases hrel with ⟨hgg, rfl, rfl, HR, HW⟩ | ⟨hgg, rfl, a, d, r1, L, HP, rfl, HL, HM⟩ | ⟨rfl, tm, r3, L, HP, rfl, HL, HD⟩
    · have hq0 : wr.cell? ⟨w.heap.size, 1, none⟩ = some (.slice none 0 0) := (blk_cell HR.out 1).trans rfl
      have hq9 : wr.cell? ⟨w.heap.size, 0, none⟩ = some (.int .u8 40) := (blk_cell HR.out 0).trans rfl
      clear HIA
      cases hp : prs k r with
      | none =>
        rw [hp] at HI
        have HPN := Aside0.mk hp
        clear hp hq0
        go_wp2_with (go_at_call 43; refine (HI _).out.mono ?_; rintro e w2 ⟨rfl, hb2⟩; have HB2 := Aside0.mk (below_step HW.out hb2); clear hb2)
        obtain rfl : O = none := by rw [← HO9.out, HPN.out]; rfl
        go_ret2
        exact ⟨rfl, HB2.out⟩
      | some x =>
        obtain ⟨a, r'⟩ := x
        rw [hp] at HI
        have HPS := Aside0.mk hp
        clear hp hq0
        cases r' with
        | nil =>
          go_wp2_with (first
            | (go_at_call 43; refine (HI _).out.mono ?_; rintro e w2 ⟨⟨p, L, rfl, hL, hIT⟩, hb2⟩; obtain ⟨b2, rfl, hlt2⟩ := (hIT w2 (Kept.refl _ _)).some; have HB2 := Aside0.mk (below_step HW.out hb2); have HR2 := Aside0.mk (blk_below HR.out hb2); have HIT := Aside0.mk hIT; have hq1 : w2.cell? ⟨w.heap.size, 1, none⟩ = some (.slice none 0 0) := (blk_cell HR2.out 1).trans rfl; have hLe : L.toList = [] := (ByteArray.toList_eq L).trans hL; have hLs : ¬ (1 ≤ L.size) := (by rw [← chrs_length, hL]; simp); clear hb2 hIT hL hlt2)
            | ((with_reducible refine gate_builtin (b := .append) (xs := #[.tmp 65, .tmp 67]) rfl ?_); at_builtin; (refine Kd.R_append kptr (w0 := w) w.heap.size rfl (.tmp 65) (.tmp 67) 71 49 (.pointer none) 8 rfl Try.underlying71 infoPtr rfl (by decide) (by omega) (.slice none 0 0) [] (some ⟨b2, 0, none⟩) [.pointer (some ⟨b2, 0, none⟩)] (fun _ => True) (fun _ => False) rfl rfl ?aP (fun _ hk => hk.elim) ?aF (Kd.R_nil _ _ _ _ _) HB2.out ?aS ?aL ?_; (case aP => exact rfl); (case aF => exact fun _ _ => trivial); (case aS => exact HB2.out.size); (case aL => simp); intro v1 w3 ho hb hg hat; obtain ⟨g1, n1, hv1, hg1, hl1, ⟨cells1, hcells1⟩⟩ := Kd.R_form ho (by simp); subst hv1; have BR := Aside0.mk (blk_grown HR2.out hg (by simp [Value.ownBlock])); have hq3 : w3.cell? ⟨w.heap.size, 1, none⟩ = some (.slice none 0 0) := (blk_cell BR.out 1).trans rfl; have hz3 : w3.frozen? ⟨w.heap.size, 1, none⟩ = false := blk_frozen BR.out 1; have hat2 : w2.heap.size ≤ g1 := (by rcases hat with h9 | ⟨b9, h9, h8⟩; (· simp [Value.ownBlock] at h9); (· rw [show g1 = b9 by simpa [Value.ownBlock] using h9]; exact h8)); have TM := Aside0.mk (twoMid_start HR.out HW.out HIT.out BR.out ho hb hg hcells1 hat2); clear hcells1 ho hb hg hat hat2 hg1 hl1)))
          obtain rfl : O = none := by rw [← HO9.out, HPS.out]; rfl
          go_ret2
          exact ⟨rfl, by have h9 := TM.out; obtain ⟨_, _, _, _, _, _, h8⟩ := h9; first | exact below_alloc h8 _ | exact h8⟩
        | cons d r1 =>
          cases hT : isT d with
          | false =>
            have HTT := Aside0.mk hT
            go_wp2_with (first
              | (go_at_call 43; refine (HI _).out.mono ?_; rintro e w2 ⟨⟨p, L, rfl, hL, hIT⟩, hb2⟩; obtain ⟨b2, rfl, hlt2⟩ := (hIT w2 (Kept.refl _ _)).some; have HB2 := Aside0.mk (below_step HW.out hb2); have HR2 := Aside0.mk (blk_below HR.out hb2); have HIT := Aside0.mk hIT; have hq1 : w2.cell? ⟨w.heap.size, 1, none⟩ = some (.slice none 0 0) := (blk_cell HR2.out 1).trans rfl; have hLs : 1 ≤ L.size := (by rw [← chrs_length, hL]; simp); have hLn := toList_ne hLs; have hLc := bt_get hL hLs; have HLT := Aside0.mk (chrs_tail hL); have HCON := fun w' => Aside0.mk (strings_Contains.calls _ _ _ w' (con_plus (chrs_head hL))); rw [hT] at HCON; clear hT; clear hb2 hIT hL hlt2)
              | ((with_reducible refine gate_builtin (b := .append) (xs := #[.tmp 65, .tmp 67]) rfl ?_); at_builtin; (refine Kd.R_append kptr (w0 := w) w.heap.size rfl (.tmp 65) (.tmp 67) 71 49 (.pointer none) 8 rfl Try.underlying71 infoPtr rfl (by decide) (by omega) (.slice none 0 0) [] (some ⟨b2, 0, none⟩) [.pointer (some ⟨b2, 0, none⟩)] (fun _ => True) (fun _ => False) rfl rfl ?aP (fun _ hk => hk.elim) ?aF (Kd.R_nil _ _ _ _ _) HB2.out ?aS ?aL ?_; (case aP => exact rfl); (case aF => exact fun _ _ => trivial); (case aS => exact HB2.out.size); (case aL => simp); intro v1 w3 ho hb hg hat; obtain ⟨g1, n1, hv1, hg1, hl1, ⟨cells1, hcells1⟩⟩ := Kd.R_form ho (by simp); subst hv1; have BR := Aside0.mk (blk_grown HR2.out hg (by simp [Value.ownBlock])); have hq3 : w3.cell? ⟨w.heap.size, 1, none⟩ = some (.slice none 0 0) := (blk_cell BR.out 1).trans rfl; have hz3 : w3.frozen? ⟨w.heap.size, 1, none⟩ = false := blk_frozen BR.out 1; have hat2 : w2.heap.size ≤ g1 := (by rcases hat with h9 | ⟨b9, h9, h8⟩; (· simp [Value.ownBlock] at h9); (· rw [show g1 = b9 by simpa [Value.ownBlock] using h9]; exact h8)); have TM := Aside0.mk (twoMid_start HR.out HW.out HIT.out BR.out ho hb hg hcells1 hat2); clear hcells1 ho hb hg hat hat2 hg1 hl1))
              | (go_at_call 53; refine (HCON _).out.mono ?_; rintro e w5 ⟨rfl, hd⟩; have TM5 := Aside0.mk (TwoMid.below (TwoMid.below TM.out (below_alloc (Below.refl _ _) _)) (drawn0_below hd)); obtain ⟨g5, n5, p5, q5, _, _, _⟩ := TM5.out; have hc5 : w5.cell? ⟨w.heap.size, 0, none⟩ = some (.int .u8 ((40 : UInt8).toNat : Int)) := (blk_cell q5 0).trans rfl; have hz5 : w5.frozen? ⟨w.heap.size, 0, none⟩ = false := blk_frozen q5 0; clear hd q5))
            obtain rfl : O = none := by rw [← HO9.out, HPS.out]; show (if isT d = true then _ else none) = none; rw [HTT.out, if_neg (by decide)]
            go_ret2
            exact ⟨rfl, by have h9 := TM5.out; obtain ⟨_, _, _, _, _, _, h8⟩ := h9; exact h8⟩
          | true =>
            have HTT := Aside0.mk hT
            go_wp2_with (first
              | (go_at_call 43; refine (HI _).out.mono ?_; rintro e w2 ⟨⟨p, L, rfl, hL, hIT⟩, hb2⟩; obtain ⟨b2, rfl, hlt2⟩ := (hIT w2 (Kept.refl _ _)).some; have HB2 := Aside0.mk (below_step HW.out hb2); have HR2 := Aside0.mk (blk_below HR.out hb2); have HIT := Aside0.mk hIT; have hq1 : w2.cell? ⟨w.heap.size, 1, none⟩ = some (.slice none 0 0) := (blk_cell HR2.out 1).trans rfl; have hLs : 1 ≤ L.size := (by rw [← chrs_length, hL]; simp); have hLn := toList_ne hLs; have hLc := bt_get hL hLs; have HLT := Aside0.mk (chrs_tail hL); have HCON := fun w' => Aside0.mk (strings_Contains.calls _ _ _ w' (con_plus (chrs_head hL))); rw [hT] at HCON; clear hT; clear hb2 hIT hL hlt2)
              | ((with_reducible refine gate_builtin (b := .append) (xs := #[.tmp 65, .tmp 67]) rfl ?_); at_builtin; (refine Kd.R_append kptr (w0 := w) w.heap.size rfl (.tmp 65) (.tmp 67) 71 49 (.pointer none) 8 rfl Try.underlying71 infoPtr rfl (by decide) (by omega) (.slice none 0 0) [] (some ⟨b2, 0, none⟩) [.pointer (some ⟨b2, 0, none⟩)] (fun _ => True) (fun _ => False) rfl rfl ?aP (fun _ hk => hk.elim) ?aF (Kd.R_nil _ _ _ _ _) HB2.out ?aS ?aL ?_; (case aP => exact rfl); (case aF => exact fun _ _ => trivial); (case aS => exact HB2.out.size); (case aL => simp); intro v1 w3 ho hb hg hat; obtain ⟨g1, n1, hv1, hg1, hl1, ⟨cells1, hcells1⟩⟩ := Kd.R_form ho (by simp); subst hv1; have BR := Aside0.mk (blk_grown HR2.out hg (by simp [Value.ownBlock])); have hq3 : w3.cell? ⟨w.heap.size, 1, none⟩ = some (.slice none 0 0) := (blk_cell BR.out 1).trans rfl; have hz3 : w3.frozen? ⟨w.heap.size, 1, none⟩ = false := blk_frozen BR.out 1; have hat2 : w2.heap.size ≤ g1 := (by rcases hat with h9 | ⟨b9, h9, h8⟩; (· simp [Value.ownBlock] at h9); (· rw [show g1 = b9 by simpa [Value.ownBlock] using h9]; exact h8)); have TM := Aside0.mk (twoMid_start HR.out HW.out HIT.out BR.out ho hb hg hcells1 hat2); clear hcells1 ho hb hg hat hat2 hg1 hl1))
              | (go_at_call 53; refine (HCON _).out.mono ?_; rintro e w5 ⟨rfl, hd⟩; have TM5 := Aside0.mk (TwoMid.below (TwoMid.below TM.out (below_alloc (Below.refl _ _) _)) (drawn0_below hd)); obtain ⟨g5, n5, p5, q5, _, _, _⟩ := TM5.out; have hc5 : w5.cell? ⟨w.heap.size, 0, none⟩ = some (.int .u8 ((40 : UInt8).toNat : Int)) := (blk_cell q5 0).trans rfl; have hz5 : w5.frozen? ⟨w.heap.size, 0, none⟩ = false := blk_frozen q5 0; clear hd q5))
            go_roundg 2
            case measure => omega
            case rel => exact .inr (.inl ⟨by omega, by first | rfl | (simp; done), a, d, r1, _, ⟨HPS.out, HTT.out⟩, rfl, HLT, ⟨TM5.out.sign⟩⟩)
    · obtain ⟨HPa, HTd⟩ := HP.out
      have hlr : L.size ≤ r.length := by
        rw [← chrs_length, HL.out]
        have := prs_len HPa
        simp at this; omega
      have HI1 := fun w' => Aside0.mk (HIA.out L w' hlr)
      rw [HL.out] at HI1
      have HPS := Aside0.mk HPa
      have HTT := Aside0.mk HTd
      obtain ⟨g1, n1, pa, m1, m2, m3, m4⟩ := HM.out
      have M1 := Aside0.mk m1
      have M2 := Aside0.mk m2
      have M3 := Aside0.mk m3
      have M4 := Aside0.mk m4
      obtain ⟨cg, hcg⟩ := Kd.R_typed m2 g1 rfl
      have hneg : ¬ (w.heap.size = g1) := blk_ne m1 hcg (by decide)
      have hq0 : wr.cell? ⟨w.heap.size, 1, none⟩ = some (.slice (some ⟨g1, 0, none⟩) 1 n1) := (blk_cell m1 1).trans rfl
      clear HIA HI HPa HTd hlr m1 m2 m3 m4 hcg
      cases hp : prs k r1 with
      | none =>
        rw [hp] at HI1
        have HPN := Aside0.mk hp
        clear hp hq0
        go_wp2_with (go_at_call 43; refine (HI1 _).out.mono ?_; rintro e w2 ⟨rfl, hb2⟩; have HB2 := Aside0.mk (below_step M4.out hb2); clear hb2)
        obtain rfl : O = none := by rw [← HO9.out, HPS.out]; show (if isT d = true then twoB a d (prs k r1) else none) = none; rw [if_pos HTT.out, HPN.out]; rfl
        go_ret2
        exact ⟨rfl, HB2.out⟩
      | some x =>
        obtain ⟨b, r'⟩ := x
        rw [hp] at HI1
        have HPB := Aside0.mk hp
        clear hp hq0
        cases r' with
        | nil =>
          go_wp2_with (first
            | (go_at_call 43; refine (HI1 _).out.mono ?_; rintro e w2 ⟨⟨p, L2, rfl, hL2, hIT⟩, hb2⟩; obtain ⟨b2, rfl, hlt2⟩ := (hIT w2 (Kept.refl _ _)).some; have HB2 := Aside0.mk (below_step M4.out hb2); have HR2 := Aside0.mk (blk_below M1.out hb2); have RO2 := Aside0.mk (Kd.R_below M2.out hb2); have HIT := Aside0.mk hIT; have HBB := Aside0.mk hb2; have hq1 : w2.cell? ⟨w.heap.size, 1, none⟩ = some (.slice (some ⟨g1, 0, none⟩) 1 n1) := (blk_cell HR2.out 1).trans rfl; have hLe2 : L2.toList = [] := (ByteArray.toList_eq L2).trans hL2; have hLs2 : ¬ (1 ≤ L2.size) := (by rw [← chrs_length, hL2]; simp); clear hb2 hIT hL2 hlt2)
            | ((with_reducible refine gate_builtin (b := .append) (xs := #[.tmp 65, .tmp 67]) rfl ?_); at_builtin; (refine Kd.R_append kptr (w0 := w) w.heap.size rfl (.tmp 65) (.tmp 67) 71 49 (.pointer none) 8 rfl Try.underlying71 infoPtr rfl (by decide) (by omega) (.slice (some ⟨g1, 0, none⟩) 1 n1) [pa] (some ⟨b2, 0, none⟩) [.pointer (some ⟨b2, 0, none⟩)] (fun _ => True) (fun _ => False) rfl rfl ?aP (fun _ hk => hk.elim) ?aF RO2.out HB2.out ?aS ?aL ?_; (case aP => exact rfl); (case aF => exact fun _ _ => trivial); (case aS => exact HB2.out.size); (case aL => simp); intro v1 w3 ho hb hg hat; obtain ⟨g3, n3, hv1, hg1, hl1, ⟨cells1, hcells1⟩⟩ := Kd.R_form ho (by simp); subst hv1; have BR := Aside0.mk (blk_grown HR2.out hg (by simp [Value.ownBlock, hneg])); have hq3 : w3.cell? ⟨w.heap.size, 1, none⟩ = some (.slice (some ⟨g1, 0, none⟩) 1 n1) := (blk_cell BR.out 1).trans rfl; have hz3 : w3.frozen? ⟨w.heap.size, 1, none⟩ = false := blk_frozen BR.out 1; have PD := Aside0.mk (pdone_two M1.out M2.out M3.out M4.out HBB.out HIT.out ho hb hg); clear hcells1 ho hb hg hat hg1 hl1)))
          obtain rfl : O = none := by rw [← HO9.out, HPS.out]; show (if isT d = true then twoB a d (prs k r1) else none) = none; rw [if_pos HTT.out, HPB.out]; rfl
          go_ret2
          exact ⟨rfl, by first | exact below_alloc PD.out.2 _ | exact PD.out.2⟩
        | cons e41 r3 =>
          by_cases h41 : e41 = 41
          · have HEE := Aside0.mk h41
            go_wp2_with (first
              | (go_at_call 43; refine (HI1 _).out.mono ?_; rintro e w2 ⟨⟨p, L2, rfl, hL2, hIT⟩, hb2⟩; obtain ⟨b2, rfl, hlt2⟩ := (hIT w2 (Kept.refl _ _)).some; have HB2 := Aside0.mk (below_step M4.out hb2); have HR2 := Aside0.mk (blk_below M1.out hb2); have RO2 := Aside0.mk (Kd.R_below M2.out hb2); have HIT := Aside0.mk hIT; have HBB := Aside0.mk hb2; have hq1 : w2.cell? ⟨w.heap.size, 1, none⟩ = some (.slice (some ⟨g1, 0, none⟩) 1 n1) := (blk_cell HR2.out 1).trans rfl; have hLs2 : 1 ≤ L2.size := (by rw [← chrs_length, hL2]; simp); have hLn2 := toList_ne hLs2; have hLc2 := bt_get hL2 hLs2; have HLT2 := Aside0.mk (chrs_tail hL2); have HCON := fun w' => Aside0.mk (strings_Contains.calls _ _ _ w' (con_shut (chrs_head hL2))); rw [show (e41 == 41) = true by rw [h41]; rfl] at HCON; clear h41; clear hb2 hIT hL2 hlt2)
              | ((with_reducible refine gate_builtin (b := .append) (xs := #[.tmp 65, .tmp 67]) rfl ?_); at_builtin; (refine Kd.R_append kptr (w0 := w) w.heap.size rfl (.tmp 65) (.tmp 67) 71 49 (.pointer none) 8 rfl Try.underlying71 infoPtr rfl (by decide) (by omega) (.slice (some ⟨g1, 0, none⟩) 1 n1) [pa] (some ⟨b2, 0, none⟩) [.pointer (some ⟨b2, 0, none⟩)] (fun _ => True) (fun _ => False) rfl rfl ?aP (fun _ hk => hk.elim) ?aF RO2.out HB2.out ?aS ?aL ?_; (case aP => exact rfl); (case aF => exact fun _ _ => trivial); (case aS => exact HB2.out.size); (case aL => simp); intro v1 w3 ho hb hg hat; obtain ⟨g3, n3, hv1, hg1, hl1, ⟨cells1, hcells1⟩⟩ := Kd.R_form ho (by simp); subst hv1; have BR := Aside0.mk (blk_grown HR2.out hg (by simp [Value.ownBlock, hneg])); have hq3 : w3.cell? ⟨w.heap.size, 1, none⟩ = some (.slice (some ⟨g1, 0, none⟩) 1 n1) := (blk_cell BR.out 1).trans rfl; have hz3 : w3.frozen? ⟨w.heap.size, 1, none⟩ = false := blk_frozen BR.out 1; have PD := Aside0.mk (pdone_two M1.out M2.out M3.out M4.out HBB.out HIT.out ho hb hg); clear hcells1 ho hb hg hat hg1 hl1))
              | (go_at_call 53; refine (HCON _).out.mono ?_; rintro e w5 ⟨rfl, hd⟩; have PD5 := Aside0.mk (PDone.below (PDone.below PD.out (below_alloc (Below.refl _ _) _)) (drawn0_below hd)); clear hd))
            go_roundg 1
            case measure => omega
            case rel => exact .inr (.inr ⟨by first | rfl | (simp; done), .two d a b, r3, _, ⟨by rw [HPS.out]; show (if isT d = true then twoB a d (prs k r1) else none) = _; rw [if_pos HTT.out, HPB.out]; show (if e41 = 41 then _ else none) = _; rw [if_pos HEE.out]⟩, rfl, HLT2, PD5⟩)
          · have HEE := Aside0.mk h41
            go_wp2_with (first
              | (go_at_call 43; refine (HI1 _).out.mono ?_; rintro e w2 ⟨⟨p, L2, rfl, hL2, hIT⟩, hb2⟩; obtain ⟨b2, rfl, hlt2⟩ := (hIT w2 (Kept.refl _ _)).some; have HB2 := Aside0.mk (below_step M4.out hb2); have HR2 := Aside0.mk (blk_below M1.out hb2); have RO2 := Aside0.mk (Kd.R_below M2.out hb2); have HIT := Aside0.mk hIT; have HBB := Aside0.mk hb2; have hq1 : w2.cell? ⟨w.heap.size, 1, none⟩ = some (.slice (some ⟨g1, 0, none⟩) 1 n1) := (blk_cell HR2.out 1).trans rfl; have hLs2 : 1 ≤ L2.size := (by rw [← chrs_length, hL2]; simp); have hLn2 := toList_ne hLs2; have hLc2 := bt_get hL2 hLs2; have HLT2 := Aside0.mk (chrs_tail hL2); have HCON := fun w' => Aside0.mk (strings_Contains.calls _ _ _ w' (con_shut (chrs_head hL2))); rw [show (e41 == 41) = false by rw [beq_eq_false_iff_ne]; exact h41] at HCON; clear h41; clear hb2 hIT hL2 hlt2)
              | ((with_reducible refine gate_builtin (b := .append) (xs := #[.tmp 65, .tmp 67]) rfl ?_); at_builtin; (refine Kd.R_append kptr (w0 := w) w.heap.size rfl (.tmp 65) (.tmp 67) 71 49 (.pointer none) 8 rfl Try.underlying71 infoPtr rfl (by decide) (by omega) (.slice (some ⟨g1, 0, none⟩) 1 n1) [pa] (some ⟨b2, 0, none⟩) [.pointer (some ⟨b2, 0, none⟩)] (fun _ => True) (fun _ => False) rfl rfl ?aP (fun _ hk => hk.elim) ?aF RO2.out HB2.out ?aS ?aL ?_; (case aP => exact rfl); (case aF => exact fun _ _ => trivial); (case aS => exact HB2.out.size); (case aL => simp); intro v1 w3 ho hb hg hat; obtain ⟨g3, n3, hv1, hg1, hl1, ⟨cells1, hcells1⟩⟩ := Kd.R_form ho (by simp); subst hv1; have BR := Aside0.mk (blk_grown HR2.out hg (by simp [Value.ownBlock, hneg])); have hq3 : w3.cell? ⟨w.heap.size, 1, none⟩ = some (.slice (some ⟨g1, 0, none⟩) 1 n1) := (blk_cell BR.out 1).trans rfl; have hz3 : w3.frozen? ⟨w.heap.size, 1, none⟩ = false := blk_frozen BR.out 1; have PD := Aside0.mk (pdone_two M1.out M2.out M3.out M4.out HBB.out HIT.out ho hb hg); clear hcells1 ho hb hg hat hg1 hl1))
              | (go_at_call 53; refine (HCON _).out.mono ?_; rintro e w5 ⟨rfl, hd⟩; have PD5 := Aside0.mk (PDone.below (PDone.below PD.out (below_alloc (Below.refl _ _) _)) (drawn0_below hd)); clear hd))
            obtain rfl : O = none := by rw [← HO9.out, HPS.out]; show (if isT d = true then twoB a d (prs k r1) else none) = none; rw [if_pos HTT.out, HPB.out]; show (if e41 = 41 then _ else none) = _; rw [if_neg HEE.out]
            go_ret2
            exact ⟨rfl, PD5.out.2⟩
    · obtain rfl : O = some (tm, r3) := by rw [← HO9.out, HP.out]
      go_wp2_with fail
      go_ret2
      exact ⟨⟨_, L, rfl, HL.out, HD.out.1⟩, HD.out.2⟩
end Go.Proofs.Ytjjnckgdpdelkaa.P

-- spec.l7Read reads a term from a place on.
namespace Go.Proofs.Ytjjnckgdpdelkaa.P
open Go.RowKit Go.Proofs.YtjjnckgdpdelkaaW.PrintWords Go.Proofs.YtjjnckgdpdelkaaW.PrintLast Go.Proofs.YtjjnckgdpdelkaaW.PrintMore
set_option linter.unusedVariables false
set_option linter.unusedSimpArgs false

/-- The place behind what is read, 0 if there is none. -/
def end7 (n : Nat) : Option (List UInt8) → Nat
  | none => 0
  | some r => n - r.length
def Post7 (x : Tm × Option (List UInt8)) (n : Nat) (w : World) (e : Ending) (w' : World) : Prop := ∃ v, e = .returned (.tuple #[.agg #[.int .u8 x.1.S.f0, v], .int .i64 (end7 n x.2 : Nat)]) ∧ Kd.R k44 44 w' w.heap.size (fun _ => True) v x.1.S.f1 ∧ Below w.heap.size w w'

theorem new_at {W : World} {o : Obj} {g : Nat} (h : g = W.heap.size) : (W.alloc o).heap[g]? = some o := by subst h; exact blk_new _ _
theorem R7_of {W : World} {base g : Nat} {xs : List S44} {cs : Array Value} (hb : base ≤ g) (hg : W.heap[g]? = some (.cells cs 44 (0, 0))) (hn : xs.length ≤ 100)
    (hr : Reps (k44.M W base (fun k => True ∧ some k ≠ (Value.slice (some ⟨g, 0, none⟩) xs.length xs.length).ownBlock)) 2 xs cs.toList) :
    Kd.R k44 44 W base (fun _ => True) (.slice (some ⟨g, 0, none⟩) xs.length xs.length) xs := by
  have hl := hr.1
  have hc : cs.size = xs.length * 2 := by rw [← hl]; simp
  exact ⟨fun _ _ => trivial, cs.toList, ⟨hl, .inr ⟨g, xs.length, cs, rfl, hb, hg, Nat.le_refl _, by unfold maxLen; omega, hc, List.take_of_length_le (by rw [hl]; exact Nat.le_refl _)⟩⟩, hr⟩
theorem ret7 {i m : Nat} {c : Int} {v : Value} (h : m = i) {a b : Value} (ha : a = .agg #[.int .u8 c, v]) (hb : b = .int .i64 (i : Int)) : Ending.returned (.tuple #[a, b]) = .returned (.tuple #[.agg #[.int .u8 c, v], .int .i64 (m : Nat)]) := by rw [ha, hb, h]

set_option maxHeartbeats 8000000 in
set_option maxRecDepth 100000 in
theorem read7_leaf (s : ByteArray) (hs : s.size ≤ 100) (i : Nat) (c : UInt8) (r : List UInt8) (hc : (chrs s).drop i = c :: r) (hL : isL c = true) (w : World) :
    Calls Try.prog 40 #[.string s, .int .i64 i] w (Post7 (.leaf c, some r) s.size w) := by
  have hi : i < s.size := by
    rcases Nat.lt_or_ge i s.size with h | h
    · exact h
    · rw [List.drop_eq_nil_of_le (by rw [chrs_length]; exact h)] at hc; cases hc
  have h0 : s[i] = c := by
    show (chrs s)[i]'(by rw [chrs_length]; exact hi) = c
    rw [List.drop_eq_getElem_cons (by rw [chrs_length]; exact hi)] at hc
    exact (List.cons.inj hc).1
  have hr : s.size - r.length = i + 1 := by
    have := congrArg List.length hc
    rw [List.length_drop, chrs_length, List.length_cons] at this
    omega
  have hii : (i : Int) < (s.size : Int) := by omega
  have hR := Aside0.mk hr
  clear hc hr
  rcases isL_cases hL with rfl | rfl | rfl
  all_goals
    go_enter Try.func40, Try.ntmps40
    go_wp2_with fail
    refine bodyPost_ret (results_ct rfl _ _ w.heap.size 44 _ (0, 0) _ rfl (blk_alloc (blk_alloc (blk_alloc (blk_new w _) _) _) _) Try.underlying44 rfl (by kernel_rfl)) rfl ?_
    refine ⟨.slice (some ⟨w.heap.size + 1 + 1 + 1, 0, none⟩) 0 0, ret7 (i := i + 1) hR.out rfl (by simp), ?_, below_alloc (below_alloc (below_alloc (below_alloc (Below.refl _ _) _) _) _) _⟩
    refine R7_of (xs := []) (cs := #[]) (by omega) ?_ (by simp) (Reps.none _ _)
    exact new_at (by simp only [World.size_alloc])

theorem child7 {W : World} {base b0 : Nat} {v : Value} {xs : List S44} (h : Kd.R k44 44 W base (fun _ => True) v xs) (hb : b0 < base) : Kd.R k44 44 W b0 (fun k => b0 < k ∧ k < W.heap.size) v xs :=
  Kd.R_lower (Kd.R_mono (Kd.R_bound h) (fun k hk => ⟨by have := hk.2.1; omega, hk.2.2.1⟩)) (Nat.le_of_lt hb)
theorem reps_1 {α : Type} {R : α → List Value → Prop} {x : α} {a b : Value} (h : R x [a, b]) : Reps R 2 [x] [a, b] := ⟨rfl, fun j p hj => by
  cases j with
  | zero => simp only [List.getElem?_cons_zero, Option.some.injEq] at hj; subst hj; exact h
  | succ j => simp at hj⟩
theorem reps_2 {α : Type} {R : α → List Value → Prop} {x y : α} {a b c d : Value} (h : R x [a, b]) (h' : R y [c, d]) : Reps R 2 [x, y] [a, b, c, d] := ⟨rfl, fun j p hj => by
  cases j with
  | zero => simp only [List.getElem?_cons_zero, Option.some.injEq] at hj; subst hj; exact h
  | succ j =>
    cases j with
    | zero => simp only [List.getElem?_cons_succ, List.getElem?_cons_zero, Option.some.injEq] at hj; subst hj; exact h'
    | succ j => simp at hj⟩
/-- A failure: the reference hands back '0' and the place 0. -/
theorem no7_post (n : Nat) (w W : World) {v : Value} {gb : Nat} (hv : v = .tuple #[.agg #[.int .u8 48, .slice (some ⟨gb, 0, none⟩) 0 0], .int .i64 0]) (hg : W.heap[gb]? = some (.cells #[] 44 (0, 0))) (hgb : w.heap.size ≤ gb) (hb : Below w.heap.size w W) : Post7 no7 n w (.returned v) W :=
  ⟨.slice (some ⟨gb, 0, none⟩) 0 0, by rw [hv]; rfl, R7_of (xs := []) (cs := #[]) hgb hg (by simp) (Reps.none _ _), hb⟩

set_option maxHeartbeats 8000000 in
set_option maxRecDepth 100000 in
theorem read7_end (s : ByteArray) (hs : s.size ≤ 100) (i : Nat) (hi : s.size ≤ i) (w : World) :
    Calls Try.prog 40 #[.string s, .int .i64 i] w (Post7 no7 s.size w) := by
  have hii : (s.size : Int) ≤ (i : Int) := by omega
  go_enter Try.func40, Try.ntmps40
  go_wp2_with fail
  refine bodyPost_ret (results_ct rfl _ _ w.heap.size 44 _ (0, 0) _ rfl (blk_alloc (blk_alloc (blk_new w _) _) _) Try.underlying44 rfl (by kernel_rfl)) rfl ?_
  exact no7_post s.size w _ (gb := w.heap.size + 1) rfl (blk_alloc (new_at (by simp only [World.size_alloc])) _) (by omega) (below_alloc (below_alloc (below_alloc (Below.refl _ _) _) _) _)
set_option maxHeartbeats 8000000 in
set_option maxRecDepth 100000 in
theorem read7_other (s : ByteArray) (hs : s.size ≤ 100) (i : Nat) (c : UInt8) (r : List UInt8) (hc : (chrs s).drop i = c :: r) (h1 : isL c = false) (h2 : isO c = false) (h3 : c ≠ 40) (w : World) :
    Calls Try.prog 40 #[.string s, .int .i64 i] w (Post7 no7 s.size w) := by
  have hi : i < s.size := by
    rcases Nat.lt_or_ge i s.size with h | h
    · exact h
    · rw [List.drop_eq_nil_of_le (by rw [chrs_length]; exact h)] at hc; cases hc
  have h0 : s[i] = c := by
    show (chrs s)[i]'(by rw [chrs_length]; exact hi) = c
    rw [List.drop_eq_getElem_cons (by rw [chrs_length]; exact hi)] at hc
    exact (List.cons.inj hc).1
  have hii : (i : Int) < (s.size : Int) := by omega
  have hn : ¬ c.toNat = 48 ∧ ¬ c.toNat = 49 ∧ ¬ c.toNat = 97 ∧ ¬ c.toNat = 42 ∧ ¬ c.toNat = 40 ∧ ¬ (50 ≤ c.toNat ∧ c.toNat ≤ 53) := by
    have q : ∀ d : UInt8, c.toNat = d.toNat → c = d := fun d h => UInt8.toNat_inj.1 h
    refine ⟨fun h => ?_, fun h => ?_, fun h => ?_, fun h => ?_, fun h => h3 (q 40 h), fun h => ?_⟩
    · rw [q 48 h] at h1; cases h1
    · rw [q 49 h] at h1; cases h1
    · rw [q 97 h] at h1; cases h1
    · rw [q 42 h] at h2; cases h2
    · unfold isO at h2
      rw [Bool.or_eq_false_iff, Bool.and_eq_false_iff, decide_eq_false_iff_not, decide_eq_false_iff_not] at h2
      omega
  obtain ⟨n1, n2, n3, n4, n5, n6⟩ := hn
  have m1 : ((c.toNat : Int) == 48) = false := by rw [beq_eq_false_iff_ne]; omega
  have m2 : ((c.toNat : Int) == 49) = false := by rw [beq_eq_false_iff_ne]; omega
  have m3 : ((c.toNat : Int) == 97) = false := by rw [beq_eq_false_iff_ne]; omega
  have m4 : ((c.toNat : Int) == 42) = false := by rw [beq_eq_false_iff_ne]; omega
  have m5 : ((c.toNat : Int) == 40) = false := by rw [beq_eq_false_iff_ne]; omega
  have m6 : ((c.toNat : Int) != 40) = true := by rw [bne_iff_ne]; omega
  have hlt : c.toNat < 256 := c.toNat_lt
  have h7 : (c.toNat : Int) < 50 ∨ (50 ≤ (c.toNat : Int) ∧ 53 < (c.toNat : Int)) := by omega
  clear hc h1 h2 h3 n1 n2 n3 n4 n5 n6
  rcases h7 with h7 | ⟨h7, h8⟩
  all_goals
    go_enter Try.func40, Try.ntmps40
    go_wp2_with fail
    refine bodyPost_ret (results_ct rfl _ _ w.heap.size 44 _ (0, 0) _ rfl (blk_alloc (blk_alloc (blk_new w _) _) _) Try.underlying44 rfl (by kernel_rfl)) rfl ?_
    exact no7_post s.size w _ (gb := w.heap.size + 1) rfl (blk_alloc (new_at (by simp only [World.size_alloc])) _) (by omega) (below_alloc (below_alloc (below_alloc (Below.refl _ _) _) _) _)
end Go.Proofs.Ytjjnckgdpdelkaa.P

-- spec.l7Read at a sign ahead of a term.
namespace Go.Proofs.Ytjjnckgdpdelkaa.P
open Go.RowKit Go.Proofs.YtjjnckgdpdelkaaW.PrintWords Go.Proofs.YtjjnckgdpdelkaaW.PrintLast Go.Proofs.YtjjnckgdpdelkaaW.PrintMore
set_option linter.unusedVariables false
set_option linter.unusedSimpArgs false

set_option maxHeartbeats 16000000 in
set_option maxRecDepth 100000 in
theorem read7_one (s : ByteArray) (hs : s.size ≤ 100) (i : Nat) (c : UInt8) (r : List UInt8) (hc : (chrs s).drop i = c :: r) (hO : isO c = true) (x : Tm × Option (List UInt8))
    (IH : ∀ w', Calls Try.prog 40 #[.string s, .int .i64 (i + 1 : Nat)] w' (Post7 x s.size w')) (w : World) :
    Calls Try.prog 40 #[.string s, .int .i64 i] w (Post7 (.one c x.1, x.2) s.size w) := by
  have hi : i < s.size := by
    rcases Nat.lt_or_ge i s.size with h | h
    · exact h
    · rw [List.drop_eq_nil_of_le (by rw [chrs_length]; exact h)] at hc; cases hc
  have h0 : s[i] = c := by
    show (chrs s)[i]'(by rw [chrs_length]; exact hi) = c
    rw [List.drop_eq_getElem_cons (by rw [chrs_length]; exact hi)] at hc
    exact (List.cons.inj hc).1
  have hii : (i : Int) < (s.size : Int) := by omega
  have HI := fun w' => Aside0.mk (show Calls Try.prog 40 #[.string s, .int .i64 ((i : Int) + 1)] w' (Post7 x s.size w') from IH w')
  have hlt : c.toNat < 256 := c.toNat_lt
  have hmm : (((c.toNat : Int) == 48) = false ∧ ((c.toNat : Int) == 49) = false ∧ ((c.toNat : Int) == 97) = false) ∧ (((c.toNat : Int) == 42) = true ∨ (((c.toNat : Int) == 42) = false ∧ 50 ≤ (c.toNat : Int) ∧ (c.toNat : Int) ≤ 53)) := by
    rcases isO_cases hO with rfl | ⟨h1, h2, h3⟩
    · exact ⟨⟨rfl, rfl, rfl⟩, .inl rfl⟩
    · refine ⟨⟨?_, ?_, ?_⟩, .inr ⟨?_, by omega, by omega⟩⟩
      all_goals rw [beq_eq_false_iff_ne]; omega
  obtain ⟨⟨m1, m2, m3⟩, hm4⟩ := hmm
  clear hc IH hO
  rcases hm4 with m4 | ⟨m4, m5, m6⟩
  all_goals
    go_enter Try.func40, Try.ntmps40
    go_wp2_with (go_at_call 40; refine (HI _).out.mono ?_; rintro e w2 ⟨v, rfl, hR, hb2⟩; obtain ⟨A, cc, rfl⟩ := Kd.R_slice hR; have BG := Aside0.mk (blk_below (blk_alloc (blk_alloc (blk_new w _) _) _) hb2); have hg0 := blk_cell BG.out 0; have hg1 := blk_cell BG.out 1; have hf0 := blk_frozen BG.out 0; have hf1 := blk_frozen BG.out 1; have hsz2 : w.heap.size < w2.heap.size := blk_lt BG.out; have HB2 := Aside0.mk (below_step (below_alloc (below_alloc (below_alloc (Below.refl w.heap.size w) _) _) _) hb2); have HR := Aside0.mk hR; clear hR hb2)
    have BE := Aside0.mk (blk_put (blk_put BG.out 0 (.int .u8 (c.toNat : Int)) rfl) 1 (.slice (some ⟨w2.heap.size + 1, 0, none⟩) 1 1) rfl)
    refine bodyPost_ret (results_ct rfl _ _ w.heap.size 44 _ (0, 0) _ rfl (blk_alloc (blk_alloc BE.out _) _) Try.underlying44 rfl (by kernel_rfl)) rfl ?_
    refine ⟨.slice (some ⟨w2.heap.size + 1, 0, none⟩) 1 1, rfl, ?_, below_alloc (below_alloc (below_set (below_set HB2.out (Nat.le_refl _)) (Nat.le_refl _)) _) _⟩
    have hch := Kd.R_alloc (Kd.R_alloc (Kd.R_far (p := ⟨w.heap.size, 1, none⟩) (Kd.R_far (p := ⟨w.heap.size, 0, none⟩) (child7 (b0 := w.heap.size) HR.out (by simp only [World.size_alloc]; omega)) (fun k hk => by show k ≠ w.heap.size; omega) (.int .u8 (c.toNat : Int))) (fun k hk => by show k ≠ w.heap.size; omega) (.slice (some ⟨w2.heap.size + 1, 0, none⟩) 1 1)) (.cells #[.int .u8 x.1.S.f0, .slice A x.1.S.f1.length cc] 44)) (.cells #[.int .u8 x.1.S.f0, .slice A x.1.S.f1.length cc] 44)
    exact R7_of (xs := [x.1.S]) (g := w2.heap.size + 1) (by omega) (new_at (by simp [World.size_alloc])) (by simp) (reps_1 (k44_mkM _ _ _ x.1.S (Kd.R_mono hch (fun k hk => ⟨trivial, by simp only [Value.ownBlock, ne_eq, Option.some.injEq]; omega⟩))))
end Go.Proofs.Ytjjnckgdpdelkaa.P

-- spec.l7Read at a bracket.
namespace Go.Proofs.Ytjjnckgdpdelkaa.P
open Go.RowKit Go.Proofs.YtjjnckgdpdelkaaW.PrintWords Go.Proofs.YtjjnckgdpdelkaaW.PrintLast Go.Proofs.YtjjnckgdpdelkaaW.PrintMore
set_option linter.unusedVariables false
set_option linter.unusedSimpArgs false

theorem post7_at {x : Tm × Option (List UInt8)} {n : Nat} {w w' : World} {e : Ending} (h : Post7 x n w e w') {m : Int} (hm : (end7 n x.2 : Int) = m) : ∃ v, e = .returned (.tuple #[.agg #[.int .u8 x.1.S.f0, v], .int .i64 m]) ∧ Kd.R k44 44 w' w.heap.size (fun _ => True) v x.1.S.f1 ∧ Below w.heap.size w w' := by
  subst hm; exact h
theorem at_drop {s : ByteArray} {j : Nat} {d : UInt8} {r : List UInt8} (h : (chrs s).drop j = d :: r) (hj : j < s.size) : s[j] = d := by
  show (chrs s)[j]'(by rw [chrs_length]; exact hj) = d
  rw [List.drop_eq_getElem_cons (by rw [chrs_length]; exact hj)] at h
  exact (List.cons.inj h).1

set_option maxHeartbeats 32000000 in
set_option maxRecDepth 100000 in
theorem read7_two (s : ByteArray) (hs : s.size ≤ 100) (i : Nat) (r : List UInt8) (hc : (chrs s).drop i = 40 :: r) (x : Tm × Option (List UInt8)) (P : List UInt8 → Tm × Option (List UInt8))
    (IH : ∀ w', Calls Try.prog 40 #[.string s, .int .i64 (i + 1 : Nat)] w' (Post7 x s.size w'))
    (hx : ∀ r', x.2 = some r' → (chrs s).drop (s.size - r'.length) = r' ∧ r'.length + i < s.size)
    (IH2 : ∀ (j : Nat) w', i < j → j ≤ s.size → Calls Try.prog 40 #[.string s, .int .i64 (j : Nat)] w' (Post7 (P ((chrs s).drop j)) s.size w'))
    (hy : ∀ j r', i < j → (P ((chrs s).drop j)).2 = some r' → (chrs s).drop (s.size - r'.length) = r' ∧ r'.length + j ≤ s.size) (w : World) :
    Calls Try.prog 40 #[.string s, .int .i64 i] w (Post7 (one7 P x) s.size w) := by
  have hi : i < s.size := by
    rcases Nat.lt_or_ge i s.size with h | h
    · exact h
    · rw [List.drop_eq_nil_of_le (by rw [chrs_length]; exact h)] at hc; cases hc
  have h0 := at_drop hc hi
  have hii : (i : Int) < (s.size : Int) := by omega
  have HI := fun w' => Aside0.mk (show Calls Try.prog 40 #[.string s, .int .i64 ((i : Int) + 1)] w' (Post7 x s.size w') from IH w')
  have HHS := Aside0.mk hs
  have HII := Aside0.mk hi
  clear hc IH
  obtain ⟨a, o⟩ := x
  cases o with
  | none =>
    clear hx IH2 hy
    go_enter Try.func40, Try.ntmps40
    go_wp2_with (go_at_call 40; refine (HI _).out.mono ?_; rintro e w2 hp; obtain ⟨v, rfl, hR, hb2⟩ := post7_at hp (m := 0) rfl; obtain ⟨A, cc, rfl⟩ := Kd.R_slice hR; have BG := Aside0.mk (blk_below (blk_alloc (blk_alloc (blk_new w _) _) _) hb2); have BN := Aside0.mk (blk_below (new_at (g := w.heap.size + 1 + 1) (by simp only [World.size_alloc])) hb2); have BM := Aside0.mk (blk_below (blk_alloc (new_at (g := w.heap.size + 1) (by simp only [World.size_alloc])) _) hb2); have hg0 := blk_cell BG.out 0; have hg1 := blk_cell BG.out 1; have hf0 := blk_frozen BG.out 0; have hf1 := blk_frozen BG.out 1; have hn0 := blk_cell BN.out 0; have hn1 := blk_cell BN.out 1; have hsz2 : w.heap.size + 1 + 1 < w2.heap.size := blk_lt BN.out; have hsz1 : w.heap.size < w2.heap.size := blk_lt BG.out; have HB2 := Aside0.mk (below_step (below_alloc (below_alloc (below_alloc (Below.refl w.heap.size w) _) _) _) hb2); have HRA := Aside0.mk (child7 (b0 := w.heap.size) hR (by simp only [World.size_alloc]; omega)); clear hR hb2 hp)
    refine bodyPost_ret (results_ct rfl _ _ w.heap.size 44 _ (0, 0) _ rfl (blk_alloc (blk_put (blk_put BG.out 0 (.int .u8 48) rfl) 1 (.slice (some ⟨w.heap.size + 1, 0, none⟩) 0 0) rfl) _) Try.underlying44 rfl (by kernel_rfl)) rfl ?_
    exact no7_post s.size w _ (gb := w.heap.size + 1) rfl (blk_alloc (blk_far (blk_far BM.out (by show w.heap.size + 1 ≠ w.heap.size; omega) _) (by show w.heap.size + 1 ≠ w.heap.size; omega) _) _) (by omega) (below_alloc (below_set (below_set HB2.out (Nat.le_refl _)) (Nat.le_refl _)) _)
  | some r' =>
    obtain ⟨hx1, hx2⟩ := hx r' rfl
    clear hx
    cases r' with
    | nil =>
      clear IH2 hy hx1
      have hn0 : ((s.size : Int) == 0) = false := by rw [beq_eq_false_iff_ne]; omega
      clear hx2
      go_enter Try.func40, Try.ntmps40
      go_wp2_with (go_at_call 40; refine (HI _).out.mono ?_; rintro e w2 hp; obtain ⟨v, rfl, hR, hb2⟩ := post7_at hp (m := (s.size : Int)) (by show ((s.size - 0 : Nat) : Int) = _; rw [Nat.sub_zero]); obtain ⟨A, cc, rfl⟩ := Kd.R_slice hR; have BG := Aside0.mk (blk_below (blk_alloc (blk_alloc (blk_new w _) _) _) hb2); have BN := Aside0.mk (blk_below (new_at (g := w.heap.size + 1 + 1) (by simp only [World.size_alloc])) hb2); have BM := Aside0.mk (blk_below (blk_alloc (new_at (g := w.heap.size + 1) (by simp only [World.size_alloc])) _) hb2); have hg0 := blk_cell BG.out 0; have hg1 := blk_cell BG.out 1; have hf0 := blk_frozen BG.out 0; have hf1 := blk_frozen BG.out 1; have hn0 := blk_cell BN.out 0; have hn1 := blk_cell BN.out 1; have hsz2 : w.heap.size + 1 + 1 < w2.heap.size := blk_lt BN.out; have hsz1 : w.heap.size < w2.heap.size := blk_lt BG.out; have HB2 := Aside0.mk (below_step (below_alloc (below_alloc (below_alloc (Below.refl w.heap.size w) _) _) _) hb2); have HRA := Aside0.mk (child7 (b0 := w.heap.size) hR (by simp only [World.size_alloc]; omega)); clear hR hb2 hp)
      refine bodyPost_ret (results_ct rfl _ _ w.heap.size 44 _ (0, 0) _ rfl (blk_alloc (blk_put (blk_put BG.out 0 (.int .u8 48) rfl) 1 (.slice (some ⟨w.heap.size + 1, 0, none⟩) 0 0) rfl) _) Try.underlying44 rfl (by kernel_rfl)) rfl ?_
      exact no7_post s.size w _ (gb := w.heap.size + 1) rfl (blk_alloc (blk_far (blk_far BM.out (by show w.heap.size + 1 ≠ w.heap.size; omega) _) (by show w.heap.size + 1 ≠ w.heap.size; omega) _) _) (by omega) (below_alloc (below_set (below_set HB2.out (Nat.le_refl _)) (Nat.le_refl _)) _)
    | cons d r1 =>
      obtain ⟨M, hM⟩ : ∃ M, s.size - (r1.length + 1) = M := ⟨_, rfl⟩
      rw [List.length_cons] at hx1 hx2
      rw [hM] at hx1
      have hMi : i < M := by omega
      have hMn : M < s.size := by omega
      have hMs := at_drop hx1 hMn
      have hdr : (chrs s).drop (M + 1) = r1 := by
        rw [← List.drop_drop, hx1]; rfl
      have hM1 : (M : Int) < (s.size : Int) := by omega
      have hM0 : ((M : Int) == 0) = false := by rw [beq_eq_false_iff_ne]; omega
      have HM := Aside0.mk hM
      have HMI := Aside0.mk hMi
      have hM2 : (M : Int) ≤ 100 := by omega
      clear hx1 hx2 hM
      cases hT : isT d with
      | false =>
        have hne : ((d.toNat : Int) == 43) = false ∧ ((d.toNat : Int) == 46) = false ∧ ((d.toNat : Int) == 38) = false ∧ ((d.toNat : Int) != 43) = true ∧ ((d.toNat : Int) != 46) = true ∧ ((d.toNat : Int) != 38) = true := by
          have q : ∀ e : UInt8, isT e = true → (d.toNat : Int) ≠ (e.toNat : Int) := fun e he h => by
            have : d = e := UInt8.toNat_inj.1 (by omega)
            rw [this, he] at hT; cases hT
          have q1 := q 43 rfl
          have q2 := q 46 rfl
          have q3 := q 38 rfl
          refine ⟨?_, ?_, ?_, ?_, ?_, ?_⟩
          all_goals first | (rw [beq_eq_false_iff_ne]; assumption) | (rw [bne_iff_ne]; assumption)
        obtain ⟨e1, e2, e3, e4, e5, e6⟩ := hne
        have HO : one7 P (a, some (d :: r1)) = no7 := by show (if isT d = true then _ else no7) = no7; rw [hT, if_neg (by decide)]
        rw [HO]
        clear IH2 hy hT HO hdr hMi
        go_enter Try.func40, Try.ntmps40
        go_wp2_with (go_at_call 40; refine (HI _).out.mono ?_; rintro e w2 hp; obtain ⟨v, rfl, hR, hb2⟩ := post7_at hp (m := (M : Int)) (by show ((s.size - (r1.length + 1) : Nat) : Int) = _; rw [HM.out]); obtain ⟨A, cc, rfl⟩ := Kd.R_slice hR; have BG := Aside0.mk (blk_below (blk_alloc (blk_alloc (blk_new w _) _) _) hb2); have BN := Aside0.mk (blk_below (new_at (g := w.heap.size + 1 + 1) (by simp only [World.size_alloc])) hb2); have BM := Aside0.mk (blk_below (blk_alloc (new_at (g := w.heap.size + 1) (by simp only [World.size_alloc])) _) hb2); have hg0 := blk_cell BG.out 0; have hg1 := blk_cell BG.out 1; have hf0 := blk_frozen BG.out 0; have hf1 := blk_frozen BG.out 1; have hn0 := blk_cell BN.out 0; have hn1 := blk_cell BN.out 1; have hsz2 : w.heap.size + 1 + 1 < w2.heap.size := blk_lt BN.out; have hsz1 : w.heap.size < w2.heap.size := blk_lt BG.out; have HB2 := Aside0.mk (below_step (below_alloc (below_alloc (below_alloc (Below.refl w.heap.size w) _) _) _) hb2); have HRA := Aside0.mk (child7 (b0 := w.heap.size) hR (by simp only [World.size_alloc]; omega)); clear hR hb2 hp)
        refine bodyPost_ret (results_ct rfl _ _ w.heap.size 44 _ (0, 0) _ rfl (blk_alloc (blk_put (blk_put BG.out 0 (.int .u8 48) rfl) 1 (.slice (some ⟨w.heap.size + 1, 0, none⟩) 0 0) rfl) _) Try.underlying44 rfl (by kernel_rfl)) rfl ?_
        exact no7_post s.size w _ (gb := w.heap.size + 1) rfl (blk_alloc (blk_far (blk_far BM.out (by show w.heap.size + 1 ≠ w.heap.size; omega) _) (by show w.heap.size + 1 ≠ w.heap.size; omega) _) _) (by omega) (below_alloc (below_set (below_set HB2.out (Nat.le_refl _)) (Nat.le_refl _)) _)
      | true =>
        have HO : one7 P (a, some (d :: r1)) = two7 a d (P r1) := by show (if isT d = true then _ else no7) = _; rw [if_pos hT]
        rw [HO]
        have HI2 := fun w' => Aside0.mk (show Calls Try.prog 40 #[.string s, .int .i64 ((M : Int) + 1)] w' (Post7 (P r1) s.size w') by have h9 := IH2 (M + 1) w' (by omega) (by omega); rw [hdr] at h9; exact h9)
        have hy2 := fun r' (h : (P r1).2 = some r') => hy (M + 1) r' (by omega) (by rw [hdr]; exact h)
        clear IH2 hy HO hdr
        generalize P r1 = y at *
        obtain ⟨b, o2⟩ := y
        have hdc := isT_cases hT
        clear hT
        cases o2 with
        | none =>
          clear hy2 hMi
          rcases hdc with rfl | rfl | rfl
          all_goals
            go_enter Try.func40, Try.ntmps40
            go_wp2_with (first
              | (go_at_call 40; have _tok := HB2; refine (HI2 _).out.mono ?_; rintro e9 w3 hp2; obtain ⟨v2, rfl, hR2, hb3⟩ := post7_at hp2 (m := 0) rfl; obtain ⟨A2, cc2, rfl⟩ := Kd.R_slice hR2; have BG3 := Aside0.mk (blk_below (blk_alloc BG.out _) hb3); have BN3 := Aside0.mk (blk_below (blk_alloc BN.out _) hb3); have BM3 := Aside0.mk (blk_below (blk_alloc BM.out _) hb3); have BA3 := Aside0.mk (blk_below (new_at (W := w2) (g := w2.heap.size) rfl) hb3); clear hg0 hg1 hf0 hf1 hn0 hn1; have hg0 := blk_cell BG3.out 0; have hg1 := blk_cell BG3.out 1; have hf0 := blk_frozen BG3.out 0; have hf1 := blk_frozen BG3.out 1; have hn0 := blk_cell BN3.out 0; have hn1 := blk_cell BN3.out 1; have ha0 := blk_cell BA3.out 0; have ha1 := blk_cell BA3.out 1; have hsz4 : w.heap.size + 1 + 1 < w3.heap.size := blk_lt BN3.out; have hsz3 : w.heap.size < w3.heap.size := blk_lt BG3.out; have hsz5 : w2.heap.size < w3.heap.size := blk_lt BA3.out; have HB3 := Aside0.mk (below_step (below_alloc HB2.out _) hb3); have HRA3 := Aside0.mk (Kd.R_below (Kd.R_alloc HRA.out (.cells #[.int .u8 a.S.f0, .slice A a.S.f1.length cc] 44)) hb3); have HRB := Aside0.mk (child7 (b0 := w.heap.size) hR2 (by simp only [World.size_alloc]; omega)); clear hR2 hb3 hp2 _tok)
              | (go_at_call 40; refine (HI _).out.mono ?_; rintro e w2 hp; obtain ⟨v, rfl, hR, hb2⟩ := post7_at hp (m := (M : Int)) (by show ((s.size - (r1.length + 1) : Nat) : Int) = _; rw [HM.out]); obtain ⟨A, cc, rfl⟩ := Kd.R_slice hR; have BG := Aside0.mk (blk_below (blk_alloc (blk_alloc (blk_new w _) _) _) hb2); have BN := Aside0.mk (blk_below (new_at (g := w.heap.size + 1 + 1) (by simp only [World.size_alloc])) hb2); have BM := Aside0.mk (blk_below (blk_alloc (new_at (g := w.heap.size + 1) (by simp only [World.size_alloc])) _) hb2); have hg0 := blk_cell BG.out 0; have hg1 := blk_cell BG.out 1; have hf0 := blk_frozen BG.out 0; have hf1 := blk_frozen BG.out 1; have hn0 := blk_cell BN.out 0; have hn1 := blk_cell BN.out 1; have hsz2 : w.heap.size + 1 + 1 < w2.heap.size := blk_lt BN.out; have hsz1 : w.heap.size < w2.heap.size := blk_lt BG.out; have HB2 := Aside0.mk (below_step (below_alloc (below_alloc (below_alloc (Below.refl w.heap.size w) _) _) _) hb2); have HRA := Aside0.mk (child7 (b0 := w.heap.size) hR (by simp only [World.size_alloc]; omega)); clear hR hb2 hp))
            refine bodyPost_ret (results_ct rfl _ _ w.heap.size 44 _ (0, 0) _ rfl (blk_alloc (blk_put (blk_put BG3.out 0 (.int .u8 48) rfl) 1 (.slice (some ⟨w.heap.size + 1, 0, none⟩) 0 0) rfl) _) Try.underlying44 rfl (by kernel_rfl)) rfl ?_
            exact no7_post s.size w _ (gb := w.heap.size + 1) rfl (blk_alloc (blk_far (blk_far BM3.out (by show w.heap.size + 1 ≠ w.heap.size; omega) _) (by show w.heap.size + 1 ≠ w.heap.size; omega) _) _) (by omega) (below_alloc (below_set (below_set HB3.out (Nat.le_refl _)) (Nat.le_refl _)) _)
        | some r2 =>
          obtain ⟨hy3, hy4⟩ := hy2 r2 rfl
          clear hy2
          cases r2 with
          | nil =>
            have hn0 : ((s.size : Int) == 0) = false := by rw [beq_eq_false_iff_ne]; omega
            clear hy3 hy4 hMi
            rcases hdc with rfl | rfl | rfl
            all_goals
              go_enter Try.func40, Try.ntmps40
              go_wp2_with (first
                | (go_at_call 40; have _tok := HB2; refine (HI2 _).out.mono ?_; rintro e9 w3 hp2; obtain ⟨v2, rfl, hR2, hb3⟩ := post7_at hp2 (m := (s.size : Int)) (by show ((s.size - 0 : Nat) : Int) = _; rw [Nat.sub_zero]); obtain ⟨A2, cc2, rfl⟩ := Kd.R_slice hR2; have BG3 := Aside0.mk (blk_below (blk_alloc BG.out _) hb3); have BN3 := Aside0.mk (blk_below (blk_alloc BN.out _) hb3); have BM3 := Aside0.mk (blk_below (blk_alloc BM.out _) hb3); have BA3 := Aside0.mk (blk_below (new_at (W := w2) (g := w2.heap.size) rfl) hb3); clear hg0 hg1 hf0 hf1 hn0 hn1; have hg0 := blk_cell BG3.out 0; have hg1 := blk_cell BG3.out 1; have hf0 := blk_frozen BG3.out 0; have hf1 := blk_frozen BG3.out 1; have hn0 := blk_cell BN3.out 0; have hn1 := blk_cell BN3.out 1; have ha0 := blk_cell BA3.out 0; have ha1 := blk_cell BA3.out 1; have hsz4 : w.heap.size + 1 + 1 < w3.heap.size := blk_lt BN3.out; have hsz3 : w.heap.size < w3.heap.size := blk_lt BG3.out; have hsz5 : w2.heap.size < w3.heap.size := blk_lt BA3.out; have HB3 := Aside0.mk (below_step (below_alloc HB2.out _) hb3); have HRA3 := Aside0.mk (Kd.R_below (Kd.R_alloc HRA.out (.cells #[.int .u8 a.S.f0, .slice A a.S.f1.length cc] 44)) hb3); have HRB := Aside0.mk (child7 (b0 := w.heap.size) hR2 (by simp only [World.size_alloc]; omega)); clear hR2 hb3 hp2 _tok)
                | (go_at_call 40; refine (HI _).out.mono ?_; rintro e w2 hp; obtain ⟨v, rfl, hR, hb2⟩ := post7_at hp (m := (M : Int)) (by show ((s.size - (r1.length + 1) : Nat) : Int) = _; rw [HM.out]); obtain ⟨A, cc, rfl⟩ := Kd.R_slice hR; have BG := Aside0.mk (blk_below (blk_alloc (blk_alloc (blk_new w _) _) _) hb2); have BN := Aside0.mk (blk_below (new_at (g := w.heap.size + 1 + 1) (by simp only [World.size_alloc])) hb2); have BM := Aside0.mk (blk_below (blk_alloc (new_at (g := w.heap.size + 1) (by simp only [World.size_alloc])) _) hb2); have hg0 := blk_cell BG.out 0; have hg1 := blk_cell BG.out 1; have hf0 := blk_frozen BG.out 0; have hf1 := blk_frozen BG.out 1; have hn0 := blk_cell BN.out 0; have hn1 := blk_cell BN.out 1; have hsz2 : w.heap.size + 1 + 1 < w2.heap.size := blk_lt BN.out; have hsz1 : w.heap.size < w2.heap.size := blk_lt BG.out; have HB2 := Aside0.mk (below_step (below_alloc (below_alloc (below_alloc (Below.refl w.heap.size w) _) _) _) hb2); have HRA := Aside0.mk (child7 (b0 := w.heap.size) hR (by simp only [World.size_alloc]; omega)); clear hR hb2 hp))
              refine bodyPost_ret (results_ct rfl _ _ w.heap.size 44 _ (0, 0) _ rfl (blk_alloc (blk_put (blk_put BG3.out 0 (.int .u8 48) rfl) 1 (.slice (some ⟨w.heap.size + 1, 0, none⟩) 0 0) rfl) _) Try.underlying44 rfl (by kernel_rfl)) rfl ?_
              exact no7_post s.size w _ (gb := w.heap.size + 1) rfl (blk_alloc (blk_far (blk_far BM3.out (by show w.heap.size + 1 ≠ w.heap.size; omega) _) (by show w.heap.size + 1 ≠ w.heap.size; omega) _) _) (by omega) (below_alloc (below_set (below_set HB3.out (Nat.le_refl _)) (Nat.le_refl _)) _)
          | cons e41 r3 =>
            obtain ⟨E, hE⟩ : ∃ E, s.size - (r3.length + 1) = E := ⟨_, rfl⟩
            rw [List.length_cons] at hy3 hy4
            rw [hE] at hy3
            have hEn : E < s.size := by omega
            have hEs := at_drop hy3 hEn
            have hE1 : (E : Int) < (s.size : Int) := by omega
            have hE0 : ((E : Int) == 0) = false := by rw [beq_eq_false_iff_ne]; omega
            have HE := Aside0.mk hE
            have hE2 : (E : Int) ≤ 100 := by omega
            have HEE := Aside0.mk (show s.size - r3.length = E + 1 by omega)
            clear hy3 hy4 hMi hE
            by_cases h41 : e41 = 41
            · subst h41
              have HTW : ∀ d, two7 a d (b, some (41 :: r3)) = (Tm.two d a b, some r3) := fun d => by show (if (41 : UInt8) = 41 then _ else no7) = _; exact if_pos rfl
              rw [HTW]
              clear HTW
              rcases hdc with rfl | rfl | rfl
              · go_enter Try.func40, Try.ntmps40
                go_wp2_with (first
                  | (go_at_call 40; have _tok := HB2; refine (HI2 _).out.mono ?_; rintro e9 w3 hp2; obtain ⟨v2, rfl, hR2, hb3⟩ := post7_at hp2 (m := (E : Int)) (by show ((s.size - (r3.length + 1) : Nat) : Int) = _; rw [HE.out]); obtain ⟨A2, cc2, rfl⟩ := Kd.R_slice hR2; have BG3 := Aside0.mk (blk_below (blk_alloc BG.out _) hb3); have BN3 := Aside0.mk (blk_below (blk_alloc BN.out _) hb3); have BM3 := Aside0.mk (blk_below (blk_alloc BM.out _) hb3); have BA3 := Aside0.mk (blk_below (new_at (W := w2) (g := w2.heap.size) rfl) hb3); clear hg0 hg1 hf0 hf1 hn0 hn1; have hg0 := blk_cell BG3.out 0; have hg1 := blk_cell BG3.out 1; have hf0 := blk_frozen BG3.out 0; have hf1 := blk_frozen BG3.out 1; have hn0 := blk_cell BN3.out 0; have hn1 := blk_cell BN3.out 1; have ha0 := blk_cell BA3.out 0; have ha1 := blk_cell BA3.out 1; have hsz4 : w.heap.size + 1 + 1 < w3.heap.size := blk_lt BN3.out; have hsz3 : w.heap.size < w3.heap.size := blk_lt BG3.out; have hsz5 : w2.heap.size < w3.heap.size := blk_lt BA3.out; have HB3 := Aside0.mk (below_step (below_alloc HB2.out _) hb3); have HRA3 := Aside0.mk (Kd.R_below (Kd.R_alloc HRA.out (.cells #[.int .u8 a.S.f0, .slice A a.S.f1.length cc] 44)) hb3); have HRB := Aside0.mk (child7 (b0 := w.heap.size) hR2 (by simp only [World.size_alloc]; omega)); clear hR2 hb3 hp2 _tok)
                  | (go_at_call 40; refine (HI _).out.mono ?_; rintro e w2 hp; obtain ⟨v, rfl, hR, hb2⟩ := post7_at hp (m := (M : Int)) (by show ((s.size - (r1.length + 1) : Nat) : Int) = _; rw [HM.out]); obtain ⟨A, cc, rfl⟩ := Kd.R_slice hR; have BG := Aside0.mk (blk_below (blk_alloc (blk_alloc (blk_new w _) _) _) hb2); have BN := Aside0.mk (blk_below (new_at (g := w.heap.size + 1 + 1) (by simp only [World.size_alloc])) hb2); have BM := Aside0.mk (blk_below (blk_alloc (new_at (g := w.heap.size + 1) (by simp only [World.size_alloc])) _) hb2); have hg0 := blk_cell BG.out 0; have hg1 := blk_cell BG.out 1; have hf0 := blk_frozen BG.out 0; have hf1 := blk_frozen BG.out 1; have hn0 := blk_cell BN.out 0; have hn1 := blk_cell BN.out 1; have hsz2 : w.heap.size + 1 + 1 < w2.heap.size := blk_lt BN.out; have hsz1 : w.heap.size < w2.heap.size := blk_lt BG.out; have HB2 := Aside0.mk (below_step (below_alloc (below_alloc (below_alloc (Below.refl w.heap.size w) _) _) _) hb2); have HRA := Aside0.mk (child7 (b0 := w.heap.size) hR (by simp only [World.size_alloc]; omega)); clear hR hb2 hp))
                have hdd : w2.heap.size < w3.heap.size := hsz5
                go_region
                go_wp2_with fail
                have BE := Aside0.mk (blk_put (blk_put BG3.out 0 (.int .u8 43) rfl) 1 (.slice (some ⟨w3.heap.size + 1, 0, none⟩) 2 2) rfl)
                refine bodyPost_ret (results_ct rfl _ _ w.heap.size 44 _ (0, 0) _ rfl (blk_drew (blk_alloc (blk_alloc BE.out _) _)) Try.underlying44 rfl (by kernel_rfl)) rfl ?_
                refine ⟨.slice (some ⟨w3.heap.size + 1, 0, none⟩) 2 2, ret7 (i := E + 1) HEE.out rfl (by simp), ?_, below_drew1 (below_alloc (below_alloc (below_set (below_set HB3.out (Nat.le_refl _)) (Nat.le_refl _)) _) _)⟩
                refine Kd.R_drew (R7_of (xs := [a.S, b.S]) (g := w3.heap.size + 1) (by omega) (new_at (by simp [World.size_alloc])) (by simp) (reps_2 (k44_mkM _ _ _ a.S (Kd.R_mono (Kd.R_alloc (Kd.R_alloc (Kd.R_far (p := ⟨w.heap.size, 1, none⟩) (Kd.R_far (p := ⟨w.heap.size, 0, none⟩) HRA3.out ?_ _) ?_ _) _) _) ?_)) (k44_mkM _ _ _ b.S (Kd.R_mono (Kd.R_alloc (Kd.R_alloc (Kd.R_far (p := ⟨w.heap.size, 1, none⟩) (Kd.R_far (p := ⟨w.heap.size, 0, none⟩) HRB.out ?_ _) ?_ _) _) _) ?_))))
                all_goals (intro k hk; first | (show k ≠ w.heap.size; omega) | (refine ⟨trivial, ?_⟩; simp only [Value.ownBlock, ne_eq, Option.some.injEq]; omega))
              · go_enter Try.func40, Try.ntmps40
                go_wp2_with (first
                  | (go_at_call 40; have _tok := HB2; refine (HI2 _).out.mono ?_; rintro e9 w3 hp2; obtain ⟨v2, rfl, hR2, hb3⟩ := post7_at hp2 (m := (E : Int)) (by show ((s.size - (r3.length + 1) : Nat) : Int) = _; rw [HE.out]); obtain ⟨A2, cc2, rfl⟩ := Kd.R_slice hR2; have BG3 := Aside0.mk (blk_below (blk_alloc BG.out _) hb3); have BN3 := Aside0.mk (blk_below (blk_alloc BN.out _) hb3); have BM3 := Aside0.mk (blk_below (blk_alloc BM.out _) hb3); have BA3 := Aside0.mk (blk_below (new_at (W := w2) (g := w2.heap.size) rfl) hb3); clear hg0 hg1 hf0 hf1 hn0 hn1; have hg0 := blk_cell BG3.out 0; have hg1 := blk_cell BG3.out 1; have hf0 := blk_frozen BG3.out 0; have hf1 := blk_frozen BG3.out 1; have hn0 := blk_cell BN3.out 0; have hn1 := blk_cell BN3.out 1; have ha0 := blk_cell BA3.out 0; have ha1 := blk_cell BA3.out 1; have hsz4 : w.heap.size + 1 + 1 < w3.heap.size := blk_lt BN3.out; have hsz3 : w.heap.size < w3.heap.size := blk_lt BG3.out; have hsz5 : w2.heap.size < w3.heap.size := blk_lt BA3.out; have HB3 := Aside0.mk (below_step (below_alloc HB2.out _) hb3); have HRA3 := Aside0.mk (Kd.R_below (Kd.R_alloc HRA.out (.cells #[.int .u8 a.S.f0, .slice A a.S.f1.length cc] 44)) hb3); have HRB := Aside0.mk (child7 (b0 := w.heap.size) hR2 (by simp only [World.size_alloc]; omega)); clear hR2 hb3 hp2 _tok)
                  | (go_at_call 40; refine (HI _).out.mono ?_; rintro e w2 hp; obtain ⟨v, rfl, hR, hb2⟩ := post7_at hp (m := (M : Int)) (by show ((s.size - (r1.length + 1) : Nat) : Int) = _; rw [HM.out]); obtain ⟨A, cc, rfl⟩ := Kd.R_slice hR; have BG := Aside0.mk (blk_below (blk_alloc (blk_alloc (blk_new w _) _) _) hb2); have BN := Aside0.mk (blk_below (new_at (g := w.heap.size + 1 + 1) (by simp only [World.size_alloc])) hb2); have BM := Aside0.mk (blk_below (blk_alloc (new_at (g := w.heap.size + 1) (by simp only [World.size_alloc])) _) hb2); have hg0 := blk_cell BG.out 0; have hg1 := blk_cell BG.out 1; have hf0 := blk_frozen BG.out 0; have hf1 := blk_frozen BG.out 1; have hn0 := blk_cell BN.out 0; have hn1 := blk_cell BN.out 1; have hsz2 : w.heap.size + 1 + 1 < w2.heap.size := blk_lt BN.out; have hsz1 : w.heap.size < w2.heap.size := blk_lt BG.out; have HB2 := Aside0.mk (below_step (below_alloc (below_alloc (below_alloc (Below.refl w.heap.size w) _) _) _) hb2); have HRA := Aside0.mk (child7 (b0 := w.heap.size) hR (by simp only [World.size_alloc]; omega)); clear hR hb2 hp))
                have hdd : w2.heap.size < w3.heap.size := hsz5
                go_region
                go_wp2_with fail
                have BE := Aside0.mk (blk_put (blk_put BG3.out 0 (.int .u8 46) rfl) 1 (.slice (some ⟨w3.heap.size + 1, 0, none⟩) 2 2) rfl)
                refine bodyPost_ret (results_ct rfl _ _ w.heap.size 44 _ (0, 0) _ rfl (blk_drew (blk_alloc (blk_alloc BE.out _) _)) Try.underlying44 rfl (by kernel_rfl)) rfl ?_
                refine ⟨.slice (some ⟨w3.heap.size + 1, 0, none⟩) 2 2, ret7 (i := E + 1) HEE.out rfl (by simp), ?_, below_drew1 (below_alloc (below_alloc (below_set (below_set HB3.out (Nat.le_refl _)) (Nat.le_refl _)) _) _)⟩
                refine Kd.R_drew (R7_of (xs := [a.S, b.S]) (g := w3.heap.size + 1) (by omega) (new_at (by simp [World.size_alloc])) (by simp) (reps_2 (k44_mkM _ _ _ a.S (Kd.R_mono (Kd.R_alloc (Kd.R_alloc (Kd.R_far (p := ⟨w.heap.size, 1, none⟩) (Kd.R_far (p := ⟨w.heap.size, 0, none⟩) HRA3.out ?_ _) ?_ _) _) _) ?_)) (k44_mkM _ _ _ b.S (Kd.R_mono (Kd.R_alloc (Kd.R_alloc (Kd.R_far (p := ⟨w.heap.size, 1, none⟩) (Kd.R_far (p := ⟨w.heap.size, 0, none⟩) HRB.out ?_ _) ?_ _) _) _) ?_))))
                all_goals (intro k hk; first | (show k ≠ w.heap.size; omega) | (refine ⟨trivial, ?_⟩; simp only [Value.ownBlock, ne_eq, Option.some.injEq]; omega))
              · go_enter Try.func40, Try.ntmps40
                go_wp2_with (first
                  | (go_at_call 40; have _tok := HB2; refine (HI2 _).out.mono ?_; rintro e9 w3 hp2; obtain ⟨v2, rfl, hR2, hb3⟩ := post7_at hp2 (m := (E : Int)) (by show ((s.size - (r3.length + 1) : Nat) : Int) = _; rw [HE.out]); obtain ⟨A2, cc2, rfl⟩ := Kd.R_slice hR2; have BG3 := Aside0.mk (blk_below (blk_alloc BG.out _) hb3); have BN3 := Aside0.mk (blk_below (blk_alloc BN.out _) hb3); have BM3 := Aside0.mk (blk_below (blk_alloc BM.out _) hb3); have BA3 := Aside0.mk (blk_below (new_at (W := w2) (g := w2.heap.size) rfl) hb3); clear hg0 hg1 hf0 hf1 hn0 hn1; have hg0 := blk_cell BG3.out 0; have hg1 := blk_cell BG3.out 1; have hf0 := blk_frozen BG3.out 0; have hf1 := blk_frozen BG3.out 1; have hn0 := blk_cell BN3.out 0; have hn1 := blk_cell BN3.out 1; have ha0 := blk_cell BA3.out 0; have ha1 := blk_cell BA3.out 1; have hsz4 : w.heap.size + 1 + 1 < w3.heap.size := blk_lt BN3.out; have hsz3 : w.heap.size < w3.heap.size := blk_lt BG3.out; have hsz5 : w2.heap.size < w3.heap.size := blk_lt BA3.out; have HB3 := Aside0.mk (below_step (below_alloc HB2.out _) hb3); have HRA3 := Aside0.mk (Kd.R_below (Kd.R_alloc HRA.out (.cells #[.int .u8 a.S.f0, .slice A a.S.f1.length cc] 44)) hb3); have HRB := Aside0.mk (child7 (b0 := w.heap.size) hR2 (by simp only [World.size_alloc]; omega)); clear hR2 hb3 hp2 _tok)
                  | (go_at_call 40; refine (HI _).out.mono ?_; rintro e w2 hp; obtain ⟨v, rfl, hR, hb2⟩ := post7_at hp (m := (M : Int)) (by show ((s.size - (r1.length + 1) : Nat) : Int) = _; rw [HM.out]); obtain ⟨A, cc, rfl⟩ := Kd.R_slice hR; have BG := Aside0.mk (blk_below (blk_alloc (blk_alloc (blk_new w _) _) _) hb2); have BN := Aside0.mk (blk_below (new_at (g := w.heap.size + 1 + 1) (by simp only [World.size_alloc])) hb2); have BM := Aside0.mk (blk_below (blk_alloc (new_at (g := w.heap.size + 1) (by simp only [World.size_alloc])) _) hb2); have hg0 := blk_cell BG.out 0; have hg1 := blk_cell BG.out 1; have hf0 := blk_frozen BG.out 0; have hf1 := blk_frozen BG.out 1; have hn0 := blk_cell BN.out 0; have hn1 := blk_cell BN.out 1; have hsz2 : w.heap.size + 1 + 1 < w2.heap.size := blk_lt BN.out; have hsz1 : w.heap.size < w2.heap.size := blk_lt BG.out; have HB2 := Aside0.mk (below_step (below_alloc (below_alloc (below_alloc (Below.refl w.heap.size w) _) _) _) hb2); have HRA := Aside0.mk (child7 (b0 := w.heap.size) hR (by simp only [World.size_alloc]; omega)); clear hR hb2 hp))
                have hdd : w2.heap.size < w3.heap.size := hsz5
                go_region
                go_wp2_with fail
                have BE := Aside0.mk (blk_put (blk_put BG3.out 0 (.int .u8 38) rfl) 1 (.slice (some ⟨w3.heap.size + 1, 0, none⟩) 2 2) rfl)
                refine bodyPost_ret (results_ct rfl _ _ w.heap.size 44 _ (0, 0) _ rfl (blk_drew (blk_alloc (blk_alloc BE.out _) _)) Try.underlying44 rfl (by kernel_rfl)) rfl ?_
                refine ⟨.slice (some ⟨w3.heap.size + 1, 0, none⟩) 2 2, ret7 (i := E + 1) HEE.out rfl (by simp), ?_, below_drew1 (below_alloc (below_alloc (below_set (below_set HB3.out (Nat.le_refl _)) (Nat.le_refl _)) _) _)⟩
                refine Kd.R_drew (R7_of (xs := [a.S, b.S]) (g := w3.heap.size + 1) (by omega) (new_at (by simp [World.size_alloc])) (by simp) (reps_2 (k44_mkM _ _ _ a.S (Kd.R_mono (Kd.R_alloc (Kd.R_alloc (Kd.R_far (p := ⟨w.heap.size, 1, none⟩) (Kd.R_far (p := ⟨w.heap.size, 0, none⟩) HRA3.out ?_ _) ?_ _) _) _) ?_)) (k44_mkM _ _ _ b.S (Kd.R_mono (Kd.R_alloc (Kd.R_alloc (Kd.R_far (p := ⟨w.heap.size, 1, none⟩) (Kd.R_far (p := ⟨w.heap.size, 0, none⟩) HRB.out ?_ _) ?_ _) _) _) ?_))))
                all_goals (intro k hk; first | (show k ≠ w.heap.size; omega) | (refine ⟨trivial, ?_⟩; simp only [Value.ownBlock, ne_eq, Option.some.injEq]; omega))
            · have hne : ((e41.toNat : Int) == 41) = false ∧ ((e41.toNat : Int) != 41) = true := by
                have q : (e41.toNat : Int) ≠ 41 := fun h => h41 (UInt8.toNat_inj.1 (show e41.toNat = (41 : UInt8).toNat from by have : ((41 : UInt8).toNat : Int) = 41 := rfl; omega))
                exact ⟨by rw [beq_eq_false_iff_ne]; exact q, by rw [bne_iff_ne]; exact q⟩
              obtain ⟨e1, e2⟩ := hne
              have HO : ∀ d, two7 a d (b, some (e41 :: r3)) = no7 := fun d => by show (if e41 = 41 then _ else no7) = no7; rw [if_neg h41]
              rw [HO]
              clear HO h41
              rcases hdc with rfl | rfl | rfl
              all_goals
                go_enter Try.func40, Try.ntmps40
                go_wp2_with (first
                  | (go_at_call 40; have _tok := HB2; refine (HI2 _).out.mono ?_; rintro e9 w3 hp2; obtain ⟨v2, rfl, hR2, hb3⟩ := post7_at hp2 (m := (E : Int)) (by show ((s.size - (r3.length + 1) : Nat) : Int) = _; rw [HE.out]); obtain ⟨A2, cc2, rfl⟩ := Kd.R_slice hR2; have BG3 := Aside0.mk (blk_below (blk_alloc BG.out _) hb3); have BN3 := Aside0.mk (blk_below (blk_alloc BN.out _) hb3); have BM3 := Aside0.mk (blk_below (blk_alloc BM.out _) hb3); have BA3 := Aside0.mk (blk_below (new_at (W := w2) (g := w2.heap.size) rfl) hb3); clear hg0 hg1 hf0 hf1 hn0 hn1; have hg0 := blk_cell BG3.out 0; have hg1 := blk_cell BG3.out 1; have hf0 := blk_frozen BG3.out 0; have hf1 := blk_frozen BG3.out 1; have hn0 := blk_cell BN3.out 0; have hn1 := blk_cell BN3.out 1; have ha0 := blk_cell BA3.out 0; have ha1 := blk_cell BA3.out 1; have hsz4 : w.heap.size + 1 + 1 < w3.heap.size := blk_lt BN3.out; have hsz3 : w.heap.size < w3.heap.size := blk_lt BG3.out; have hsz5 : w2.heap.size < w3.heap.size := blk_lt BA3.out; have HB3 := Aside0.mk (below_step (below_alloc HB2.out _) hb3); have HRA3 := Aside0.mk (Kd.R_below (Kd.R_alloc HRA.out (.cells #[.int .u8 a.S.f0, .slice A a.S.f1.length cc] 44)) hb3); have HRB := Aside0.mk (child7 (b0 := w.heap.size) hR2 (by simp only [World.size_alloc]; omega)); clear hR2 hb3 hp2 _tok)
                  | (go_at_call 40; refine (HI _).out.mono ?_; rintro e w2 hp; obtain ⟨v, rfl, hR, hb2⟩ := post7_at hp (m := (M : Int)) (by show ((s.size - (r1.length + 1) : Nat) : Int) = _; rw [HM.out]); obtain ⟨A, cc, rfl⟩ := Kd.R_slice hR; have BG := Aside0.mk (blk_below (blk_alloc (blk_alloc (blk_new w _) _) _) hb2); have BN := Aside0.mk (blk_below (new_at (g := w.heap.size + 1 + 1) (by simp only [World.size_alloc])) hb2); have BM := Aside0.mk (blk_below (blk_alloc (new_at (g := w.heap.size + 1) (by simp only [World.size_alloc])) _) hb2); have hg0 := blk_cell BG.out 0; have hg1 := blk_cell BG.out 1; have hf0 := blk_frozen BG.out 0; have hf1 := blk_frozen BG.out 1; have hn0 := blk_cell BN.out 0; have hn1 := blk_cell BN.out 1; have hsz2 : w.heap.size + 1 + 1 < w2.heap.size := blk_lt BN.out; have hsz1 : w.heap.size < w2.heap.size := blk_lt BG.out; have HB2 := Aside0.mk (below_step (below_alloc (below_alloc (below_alloc (Below.refl w.heap.size w) _) _) _) hb2); have HRA := Aside0.mk (child7 (b0 := w.heap.size) hR (by simp only [World.size_alloc]; omega)); clear hR hb2 hp))
                refine bodyPost_ret (results_ct rfl _ _ w.heap.size 44 _ (0, 0) _ rfl (blk_alloc (blk_put (blk_put BG3.out 0 (.int .u8 48) rfl) 1 (.slice (some ⟨w.heap.size + 1, 0, none⟩) 0 0) rfl) _) Try.underlying44 rfl (by kernel_rfl)) rfl ?_
                exact no7_post s.size w _ (gb := w.heap.size + 1) rfl (blk_alloc (blk_far (blk_far BM3.out (by show w.heap.size + 1 ≠ w.heap.size; omega) _) (by show w.heap.size + 1 ≠ w.heap.size; omega) _) _) (by omega) (below_alloc (below_set (below_set HB3.out (Nat.le_refl _)) (Nat.le_refl _)) _)
end Go.Proofs.Ytjjnckgdpdelkaa.P

-- spec.l7Read from its cases.
namespace Go.Proofs.Ytjjnckgdpdelkaa.P
open Go.RowKit Go.Proofs.YtjjnckgdpdelkaaW.PrintWords Go.Proofs.YtjjnckgdpdelkaaW.PrintLast Go.Proofs.YtjjnckgdpdelkaaW.PrintMore
set_option linter.unusedVariables false
set_option linter.unusedSimpArgs false

theorem rd7_tail {k : Nat} {s r : List UInt8} (h : (rd7 k s).2 = some r) : ∃ p : List UInt8, s = p ++ r ∧ 0 < p.length := by
  cases hp : prs k s with
  | none => rw [(rd7_prs k s).2 hp] at h; cases h
  | some x =>
    obtain ⟨t, r'⟩ := x
    rw [(rd7_prs k s).1 t r' hp] at h
    simp only [Option.some.injEq] at h
    subst h
    exact ⟨t.txt, (prs_spec k s hp).2, txt_pos t⟩
theorem tail_at {s : ByteArray} {i k : Nat} {r : List UInt8} (h : (rd7 k ((chrs s).drop i)).2 = some r) : (chrs s).drop (s.size - r.length) = r ∧ r.length + i < s.size := by
  obtain ⟨p, hp, hp0⟩ := rd7_tail h
  have hl := congrArg List.length hp
  rw [List.length_drop, chrs_length, List.length_append] at hl
  refine ⟨?_, by omega⟩
  rw [show s.size - r.length = i + p.length by omega, ← List.drop_drop, hp, List.drop_left]
theorem read7_all (s : ByteArray) (hs : s.size ≤ 100) : ∀ (k i : Nat), i ≤ s.size → s.size - i < k → ∀ w, Calls Try.prog 40 #[.string s, .int .i64 (i : Nat)] w (Post7 (rd7 k ((chrs s).drop i)) s.size w)
  | 0, i, _, h, _ => by omega
  | k + 1, i, hi, h, w => by
    cases hc : (chrs s).drop i with
    | nil =>
      have : s.size ≤ i := by
        have := congrArg List.length hc
        rw [List.length_drop, chrs_length, List.length_nil] at this
        omega
      exact read7_end s hs i this w
    | cons c r =>
      have hlt : i < s.size := by
        have := congrArg List.length hc
        rw [List.length_drop, chrs_length, List.length_cons] at this
        omega
      have hdr : (chrs s).drop (i + 1) = r := by rw [← List.drop_drop, hc]; rfl
      unfold rd7
      have IH : ∀ w', Calls Try.prog 40 #[.string s, .int .i64 (i + 1 : Nat)] w' (Post7 (rd7 k r) s.size w') := fun w' => by
        have := read7_all s hs k (i + 1) (by omega) (by omega) w'
        rwa [hdr] at this
      by_cases hL : isL c = true
      · rw [if_pos hL]; exact read7_leaf s hs i c r hc hL w
      · rw [if_neg hL]
        by_cases hO : isO c = true
        · rw [if_pos hO]
          exact read7_one s hs i c r hc hO (rd7 k r) IH w
        · rw [if_neg hO]
          by_cases h40 : c = 40
          · subst h40
            rw [if_pos rfl]
            refine read7_two s hs i r hc (rd7 k r) (rd7 k) IH (fun r' h' => ?_) (fun j w' hij hj => read7_all s hs k j hj (by omega) w') (fun j r' hij h' => ?_) w
            · have := tail_at (s := s) (i := i + 1) (k := k) (r := r') (by rw [hdr]; exact h')
              exact ⟨this.1, by omega⟩
            · have := tail_at h'
              exact ⟨this.1, by omega⟩
          · rw [if_neg h40]
            exact read7_other s hs i c r hc (by simpa using hL) (by simpa using hO) h40 w
def spec_l7Read.f (a0 : ByteArray) (a1 : Int) : Option (Int × List S44 × Int) :=
  if a0.size ≤ 100 ∧ 0 ≤ a1 ∧ a1 ≤ a0.size then some ((rd7 (a0.size + 1) ((chrs a0).drop a1.toNat)).1.S.f0, (rd7 (a0.size + 1) ((chrs a0).drop a1.toNat)).1.S.f1, ((end7 a0.size (rd7 (a0.size + 1) ((chrs a0).drop a1.toNat)).2 : Nat) : Int)) else none
theorem spec_l7Read.calls (a0 : ByteArray) (a1 : Int) (r1 : Int) (r2 : List S44) (r3 : Int) (w : World) (h : spec_l7Read.f a0 a1 = some (r1, r2, r3)) :
    Calls Try.prog 40 #[.string a0, .int .i64 a1] w fun e w' => ∃ v1_ : Value, e = .returned (.tuple #[.agg #[.int .u8 r1, v1_], .int .i64 r3]) ∧ Kd.R k44 44 w' w.heap.size (fun _ => True) v1_ r2 ∧ Below w.heap.size w w' := by
  unfold spec_l7Read.f at h
  by_cases hc : a0.size ≤ 100 ∧ 0 ≤ a1 ∧ a1 ≤ a0.size
  · rw [if_pos hc] at h
    simp only [Option.some.injEq, Prod.mk.injEq] at h
    obtain ⟨rfl, rfl, rfl⟩ := h
    have := read7_all a0 hc.1 (a0.size + 1) a1.toNat (by omega) (by omega) w
    rw [show ((a1.toNat : Nat) : Int) = a1 by omega] at this
    exact this
  · rw [if_neg hc] at h; cases h
end Go.Proofs.Ytjjnckgdpdelkaa.P

-- impl.termOf: the term of a text.
namespace Go.Proofs.Ytjjnckgdpdelkaa.P
open Go.RowKit Go.Proofs.YtjjnckgdpdelkaaW.PrintWords Go.Proofs.YtjjnckgdpdelkaaW.PrintLast Go.Proofs.YtjjnckgdpdelkaaW.PrintMore
set_option linter.unusedVariables false
set_option linter.unusedSimpArgs false

theorem parse_all : ∀ (k : Nat) (s : ByteArray) (w : World), s.size < k → s.size ≤ 100 → Calls Try.prog 43 #[.string s] w (ParsePost (prs k (chrs s)) w)
  | 0, s, w, h, _ => by omega
  | k + 1, s, w, h, hs => by
    cases hc : chrs s with
    | nil => exact parse_empty s hc w
    | cons c r =>
      have hl : s.size = r.length + 1 := by rw [← chrs_length, hc]; rfl
      cases h1 : isL c with
      | true => rw [prs_leaf h1]; exact parse_leaf s hs c r hc h1 k w
      | false =>
        cases h2 : isO c with
        | true =>
          rw [prs_one h2]
          refine parse_one k s hs c r hc h2 (fun s' w' h' => ?_) w
          have : s'.size = r.length := by rw [← chrs_length, h']
          exact parse_all k s' w' (by omega) (by omega)
        | false =>
          by_cases h3 : c = 40
          · subst h3
            rw [prs_two]
            exact parse_two k s hs r hc (fun s' w' h' => parse_all k s' w' (by omega) (by omega)) w
          · rw [prs_other h1 h2 h3]
            exact parse_other s hs c r hc h1 h2 h3 w
/-- What impl.termOf does. -/
def TermPost (o : Option Tm) (w : World) (e : Ending) (w' : World) : Prop := match o with
  | none => e = .returned (.pointer none) ∧ Below w.heap.size w w'
  | some t => (∃ b, e = .returned (.pointer (some ⟨b, 0, none⟩)) ∧ IT w' t (some ⟨b, 0, none⟩)) ∧ Below w.heap.size w w'

set_option maxHeartbeats 8000000 in
set_option maxRecDepth 100000 in
theorem termOf_calls (s : ByteArray) (hs : s.size ≤ 70368744177664) (w : World) :
    Calls Try.prog 29 #[.string s] w (TermPost (trm (chrs s)) w) := by
  by_cases h60 : s.size ≤ 60
  · have HP := fun w => Aside0.mk (parse_all (s.size + 1) s w (by omega) (by omega))
    have ht : trm (chrs s) = trmO (prs (s.size + 1) (chrs s)) := by
      unfold trm; rw [chrs_length, if_pos h60]
    cases hp : prs (s.size + 1) (chrs s) with
    | none =>
      rw [hp] at HP ht
      rw [ht]
      clear ht hp
      go_enter Try.func29, Try.ntmps29
      go_wp2_with (go_at_call 43; refine (HP _).out.mono ?_; rintro e w2 ⟨rfl, hb2⟩; have HB := Aside0.mk hb2; clear hb2)
      go_ret
      exact ⟨rfl, HB.out⟩
    | some x =>
      obtain ⟨t, r⟩ := x
      rw [hp] at HP ht
      rw [ht]
      clear ht hp
      cases r with
      | nil =>
        go_enter Try.func29, Try.ntmps29
        go_wp2_with (go_at_call 43; refine (HP _).out.mono ?_; rintro e w2 ⟨⟨p, L, rfl, hL, hIT⟩, hb2⟩; obtain ⟨b2, rfl, hlt2⟩ := (hIT w2 (Kept.refl _ _)).some; have HB := Aside0.mk hb2; have HT := Aside0.mk (hIT w2 (Kept.refl _ _)); have hLe : L.toList = [] := (ByteArray.toList_eq L).trans hL; clear hb2 hIT hL hlt2)
        go_ret
        exact ⟨⟨_, rfl, HT.out⟩, HB.out⟩
      | cons d r1 =>
        go_enter Try.func29, Try.ntmps29
        go_wp2_with (go_at_call 43; refine (HP _).out.mono ?_; rintro e w2 ⟨⟨p, L, rfl, hL, hIT⟩, hb2⟩; have HB := Aside0.mk hb2; have hLn := toList_ne (s := L) (by rw [← chrs_length, hL]; simp); have hLm : !L.toList.isEmpty := (by rw [hLn]; rfl); clear hb2 hIT hL)
        go_ret
        exact ⟨rfl, HB.out⟩
  · have ht : trm (chrs s) = none := by unfold trm; rw [chrs_length, if_neg h60]
    rw [ht]
    have h6 : ¬ ((s.size : Int) ≤ 60) := by omega
    clear ht
    go_enter Try.func29, Try.ntmps29
    go_wp2_with fail
    go_ret
    exact ⟨rfl, Below.refl _ _⟩
end Go.Proofs.Ytjjnckgdpdelkaa.P

-- impl.TermHas.
namespace Go.Proofs.Ytjjnckgdpdelkaa.P
open Go.RowKit Go.Proofs.YtjjnckgdpdelkaaW.PrintWords Go.Proofs.YtjjnckgdpdelkaaW.PrintLast Go.Proofs.YtjjnckgdpdelkaaW.PrintMore
set_option linter.unusedVariables false
set_option linter.unusedSimpArgs false

/-- Whether a text is a term that tells a number from 0 to 200. -/
noncomputable def trh (s : List UInt8) (n : Int) : Bool := match trm s with
  | none => false
  | some t => decide (0 ≤ n ∧ n ≤ 200) && tsem t n.toNat
noncomputable def impl_TermHas.f (s : ByteArray) (n : Int) : Option Bool := if s.size ≤ 70368744177664 then some (trh (chrs s) n) else none
theorem termHas_f (s : ByteArray) (n : Int) (hs : s.size ≤ 70368744177664) : impl_TermHas.f s n = some (trh (chrs s) n) := by unfold impl_TermHas.f; rw [if_pos hs]

set_option maxHeartbeats 8000000 in
set_option maxRecDepth 100000 in
theorem impl_TermHas.calls (s : ByteArray) (n : Int) (r : Bool) (w : World) (h : impl_TermHas.f s n = some r) :
    Calls Try.prog 11 #[.string s, .int .i64 n] w fun e w' => e = .returned (.bool r) ∧ Below w.heap.size w w' := by
  unfold impl_TermHas.f at h
  split at h
  rotate_left
  · cases h
  rename_i hs
  simp only [Option.some.injEq] at h
  subst h
  have HT := fun w => Aside0.mk (termOf_calls s hs w)
  unfold trh
  cases ht : trm (chrs s) with
  | none =>
    rw [ht] at HT
    clear ht
    go_enter Try.func11, Try.ntmps11
    go_wp2_with (go_at_call 29; refine (HT _).out.mono ?_; rintro e w1 ⟨rfl, hb1⟩; have HB := Aside0.mk hb1; clear hb1)
    go_ret
    exact ⟨rfl, HB.out⟩
  | some t =>
    obtain ⟨_, hok, _, _⟩ := trm_some ht
    have HN := fun w p h => Aside0.mk (numbers_all t hok p w h)
    rw [ht] at HT
    clear ht hok
    show Calls _ _ _ _ fun e w' => e = .returned (.bool (decide (0 ≤ n ∧ n ≤ 200) && tsem t n.toNat)) ∧ _
    by_cases hn : 0 ≤ n ∧ n ≤ 200
    · obtain ⟨m, rfl⟩ := Int.eq_ofNat_of_zero_le hn.1
      have hin := in_f (m : Int) 0 200
      rw [decide_eq_true hn] at hin ⊢
      rw [Bool.true_and, Int.toNat_natCast]
      have HI := fun w => Aside0.mk (impl_in.calls (m : Int) 0 200 true w hin)
      have hm : m < 201 := by omega
      have HG := Aside0.mk (numA_get (tsem t) hm)
      have hm2 : (m : Int) < 201 := by omega
      clear hin hn
      generalize tsem t m = v at *
      go_enter Try.func11, Try.ntmps11
      go_wp2_with (first
        | (go_at_call 29; refine (HT _).out.mono ?_; rintro e w1 ⟨⟨b, rfl, hIT⟩, hb1⟩; have HB := Aside0.mk hb1; have HIT := Aside0.mk hIT; clear hb1 hIT)
        | (go_at_call 30; refine (HI _).out.mono ?_; rintro e w2 ⟨rfl, hd⟩; have hb2 := drawn0_below hd; have HB2 := Aside0.mk (below_step HB.out hb2); have HIT2 := Aside0.mk (HIT.out.below hb2); clear hd hb2)
        | (go_at_call 31; refine (HN _ _ HIT2.out).out.mono ?_; rintro e w3 ⟨⟨g, rfl, hG, hO⟩, hb3⟩; have HB3 := Aside0.mk (below_step HB2.out hb3); have hc3 : w3.cell? ⟨g, m, none⟩ = some (.bool v) := (blk_cell hO m).trans HG.out; clear hG hO hb3))
      go_ret
      exact ⟨rfl, HB3.out⟩
    · have hin := in_f n 0 200
      rw [decide_eq_false hn] at hin ⊢
      rw [Bool.false_and]
      have HI := fun w => Aside0.mk (impl_in.calls n 0 200 false w hin)
      clear hin hn
      go_enter Try.func11, Try.ntmps11
      go_wp2_with (first
        | (go_at_call 29; refine (HT _).out.mono ?_; rintro e w1 ⟨⟨b, rfl, hIT⟩, hb1⟩; have HB := Aside0.mk hb1; clear hb1 hIT)
        | (go_at_call 30; refine (HI _).out.mono ?_; rintro e w2 ⟨rfl, hd⟩; have HB2 := Aside0.mk (below_step HB.out (drawn0_below hd)); clear hd))
      go_ret
      exact ⟨rfl, HB2.out⟩
end Go.Proofs.Ytjjnckgdpdelkaa.P

-- impl.TermList.
namespace Go.Proofs.Ytjjnckgdpdelkaa.P
open Go.RowKit Go.Proofs.YtjjnckgdpdelkaaW.PrintWords Go.Proofs.YtjjnckgdpdelkaaW.PrintLast Go.Proofs.YtjjnckgdpdelkaaW.PrintMore
set_option linter.unusedVariables false
set_option linter.unusedSimpArgs false

/-- The numbers less than n of which a question holds. -/
def lstq (f : Nat → Bool) (n : Nat) : List Int := ((List.range n).filter f).map Int.ofNat
theorem lstq_succ (f : Nat → Bool) (n : Nat) : lstq f (n + 1) = if f n = true then lstq f n ++ [(n : Int)] else lstq f n := by
  unfold lstq
  rw [List.range_succ, List.filter_append, List.map_append]
  cases h : f n with
  | true => rw [if_pos rfl, List.filter_cons_of_pos (by rw [h])]; rfl
  | false => rw [if_neg (by decide), List.filter_cons_of_neg (by rw [h]; decide)]; simp
theorem lstq_length (f : Nat → Bool) (n : Nat) : (lstq f n).length ≤ n := by
  unfold lstq
  rw [List.length_map]
  have := List.length_filter_le f (List.range n)
  rw [List.length_range] at this; exact this
/-- What TermList answers. -/
noncomputable def trl (s : List UInt8) (n : Int) : List Int × Bool := match trm s with
  | none => ([], false)
  | some t => if 0 ≤ n ∧ n ≤ 200 then (lstq (tsem t) n.toNat, true) else ([], false)
noncomputable def impl_TermList.f (s : ByteArray) (n : Int) : Option (List Int × Bool) := if s.size ≤ 70368744177664 then some (trl (chrs s) n) else none
theorem termList_f (s : ByteArray) (n : Int) (hs : s.size ≤ 70368744177664) : impl_TermList.f s n = some (trl (chrs s) n) := by unfold impl_TermList.f; rw [if_pos hs]

set_option maxRecDepth 100000 in
theorem run_sliceA (ev : Operand → Value) (W : World) (d : Option Tmp) (p : String) (af : Array Edge) (g : Option (Nat × Bool)) (x y : Operand) (ty : TypeId) (b m : Nat) (hm : m ≤ 201) (hx : ev x = .pointer (some ⟨b, 0, none⟩)) (hy : ev y = .int .i64 m) :
    (execOp ev { dst := d, op := .slice 70 x none (some y) none, type := ty, pos := p, after := af, guard := g }).run Try.prog W = .ok (.value (.slice (some ⟨b, 0, none⟩) m 201)) W := by
  have hl : Try.prog.arrayLen 70 = 201 := by kernel_rfl
  have hu : Try.prog.underlying 70 = some (.array (Try.prog.arrayLen 70) (Try.prog.elem 70)) := by kernel_rfl
  have hz : ((sizeOf (Try.prog.elem 70)).run Try.prog W) = .ok 1 W := by kernel_rfl
  have e := run_sliceAt_array_h (P := Try.prog) W 70 ⟨b, 0, none⟩ hu .i64 (m : Int) (by omega) (by rw [hl]; omega)
  rw [hz, hl] at e
  have e2 : (Instr.sliceAt 70 (.pointer (some ⟨b, 0, none⟩)) none (some (.int .i64 (m : Int))) none).run Try.prog W = .ok (.slice (some ⟨b, 0, none⟩) m 201) W := by
    rw [e]
    simp [slicedAt, Addr.add, go_sem]
  clear e hz hu hl
  simp only [execOp, Option.map_none, Option.map_some, hx, hy]
  simp [go_sem, e2]
set_option maxHeartbeats 8000000 in
set_option maxRecDepth 100000 in
theorem impl_TermList.calls (s : ByteArray) (n : Int) (r1 : List Int) (r2 : Bool) (w : World) (h : impl_TermList.f s n = some (r1, r2)) :
    Calls Try.prog 15 #[.string s, .int .i64 n] w fun e w' => ∃ v0_ : Value, e = .returned (.tuple #[v0_, .bool r2]) ∧ Kd.R (Kd.int .i64) 3 w' w.heap.size (fun _ => True) v0_ r1 ∧ Below w.heap.size w w' := by
  unfold impl_TermList.f at h
  split at h
  rotate_left
  · cases h
  rename_i hs
  simp only [Option.some.injEq] at h
  have HT := fun w => Aside0.mk (termOf_calls s hs w)
  unfold trl at h
  cases ht : trm (chrs s) with
  | none =>
    rw [ht] at HT h
    obtain ⟨rfl, rfl⟩ : r1 = [] ∧ r2 = false := by simpa using h.symm
    clear ht h
    go_enter Try.func15, Try.ntmps15
    go_wp2_with (go_at_call 29; refine (HT _).out.mono ?_; rintro e w1 ⟨rfl, hb1⟩; have HB := Aside0.mk hb1; clear hb1)
    go_ret2
    exact ⟨_, rfl, Kd.R_nil _ _ _ _ _, HB.out⟩
  | some t =>
    obtain ⟨_, hok, _, _⟩ := trm_some ht
    have HN := fun w p h => Aside0.mk (numbers_all t hok p w h)
    rw [ht] at HT h
    clear ht hok
    by_cases hn : 0 ≤ n ∧ n ≤ 200
    · obtain ⟨m, rfl⟩ := Int.eq_ofNat_of_zero_le hn.1
      have hin := in_f (m : Int) 0 200
      rw [decide_eq_true hn] at hin
      obtain ⟨rfl, rfl⟩ : r1 = lstq (tsem t) m ∧ r2 = true := by
        have h' : (if 0 ≤ (m : Int) ∧ (m : Int) ≤ 200 then (lstq (tsem t) (m : Int).toNat, true) else ([], false)) = (r1, r2) := h
        rw [if_pos hn, Int.toNat_natCast] at h'
        simpa using h'.symm
      have HI := fun w => Aside0.mk (impl_in.calls (m : Int) 0 200 true w hin)
      have hm : m ≤ 200 := by omega
      have hm2 : (m : Int) ≤ 200 := by omega
      clear hin hn h
      generalize tsem t = f at *
      go_enter Try.func15, Try.ntmps15
      go_wp2_with (first
        | (go_at_call 29; refine (HT _).out.mono ?_; rintro e w1 ⟨⟨b, rfl, hIT⟩, hb1⟩; have HB := Aside0.mk hb1; have HIT := Aside0.mk hIT; clear hb1 hIT)
        | (go_at_call 30; refine (HI _).out.mono ?_; rintro e w2 ⟨rfl, hd⟩; have hb2 := drawn0_below hd; have HB2 := Aside0.mk (below_step HB.out hb2); have HIT2 := Aside0.mk (HIT.out.below hb2); clear hd hb2)
        | (go_at_call 31; refine (HN _ _ HIT2.out).out.mono ?_; rintro e w3 ⟨⟨g, rfl, hG, hO⟩, hb3⟩; have HB3 := Aside0.mk (below_step HB2.out hb3); have HO := Aside0.mk hO; clear hG hO hb3)
        | ((with_reducible refine gate_dst (N := 23) rfl ?_); refine Kd.event_run rfl (run_sliceA _ _ _ _ _ _ _ _ _ g m (by omega) rfl rfl) ?_))
      go_loopg [7, 25] m (fun gg s7 s25 w_ => ∃ i : Nat, i ≤ m ∧ m - i ≤ gg ∧ s25 = .int .i64 i ∧ Aside0 (Kd.R (Kd.int .i64) 3 w_ w.heap.size (fun k => k ≠ g) s7 (lstq f i)) ∧ Aside0 (w_.heap[g]? = some (.cells (numA f) 70 (0, 0))) ∧ Aside0 (Below w.heap.size w w_))
      case atStart => exact ⟨0, Nat.zero_le _, by omega, rfl, ⟨Kd.R_nil _ _ _ _ _⟩, HO, HB3⟩
      case round =>
        obtain ⟨i, hi, hgg, rfl, HR, HG, HW⟩ := hrel
        obtain ⟨A1, c1, hv⟩ := Kd.R_slice HR.out
        subst hv
        rcases Nat.lt_or_ge i m with hlt | hge
        · have hcx : wr.cell? ⟨g, i, none⟩ = some (.bool (f i)) := (blk_cell HG.out i).trans (numA_get f (by omega))
          have hsu := lstq_succ f i
          have hlen := lstq_length f i
          have him : (i : Int) < (m : Int) := by omega
          cases hfi : f i with
          | false =>
            rw [hfi] at hcx
            rw [hfi, if_neg (by decide)] at hsu
            have HSU := Aside0.mk hsu
            clear hsu hfi
            go_wp2
            go_roundg (m - (i + 1))
            case measure => omega
            case rel => exact ⟨i + 1, by omega, by omega, congrArg (Value.int .i64) (by omega), ⟨by rw [HSU.out]; exact HR.out⟩, HG, HW⟩
          | true =>
            rw [hfi] at hcx
            rw [hfi, if_pos rfl] at hsu
            have HSU := Aside0.mk hsu
            clear hsu hfi
            go_wp2_with (((with_reducible refine gate_builtin (b := .append) (xs := #[.tmp 31, .tmp 33]) rfl ?_); at_builtin; (refine Kd.R_append (Kd.int .i64) (w0 := w) w.heap.size rfl (.tmp 31) (.tmp 33) 30 3 (.int .i64 0) 8 rfl Try.underlying30 info3 rfl (by decide) (by omega) (.slice A1 (lstq f i).length c1) (lstq f i) (i : Int) [.int .i64 (i : Int)] (fun k => k ≠ g) (fun _ => False) rfl rfl ?aP (fun _ hk => hk.elim) ?aF HR.out HW.out ?aS ?aL ?_; (case aP => exact rfl); (case aF => exact fun k hk => by have := blk_lt HG.out; omega); (case aS => exact HW.out.size); (case aL => omega); intro v1 w3 ho hb hg hat; rw [← HSU.out] at ho; have RO := Aside0.mk ho; have RB := Aside0.mk hb; have RG := Aside0.mk (blk_grown HG.out hg (Kd.R_away HR.out (fun k hk => hk))); clear ho hb hg hat)))
            go_roundg (m - (i + 1))
            case measure => omega
            case rel => exact ⟨i + 1, by omega, by omega, congrArg (Value.int .i64) (by omega), RO, RG, RB⟩
        · obtain rfl : i = m := by omega
          go_wp2
          go_ret2
          exact ⟨_, rfl, Kd.R_mono HR.out (fun _ _ => trivial), HW.out⟩
    · have hin := in_f n 0 200
      rw [decide_eq_false hn] at hin
      obtain ⟨rfl, rfl⟩ : r1 = [] ∧ r2 = false := by
        have h' : (if 0 ≤ n ∧ n ≤ 200 then (lstq (tsem t) n.toNat, true) else ([], false)) = (r1, r2) := h
        rw [if_neg hn] at h'
        simpa using h'.symm
      have HI := fun w => Aside0.mk (impl_in.calls n 0 200 false w hin)
      clear hin hn h
      go_enter Try.func15, Try.ntmps15
      go_wp2_with (first
        | (go_at_call 29; refine (HT _).out.mono ?_; rintro e w1 ⟨⟨b, rfl, hIT⟩, hb1⟩; have HB := Aside0.mk hb1; clear hb1 hIT)
        | (go_at_call 30; refine (HI _).out.mono ?_; rintro e w2 ⟨rfl, hd⟩; have HB2 := Aside0.mk (below_step HB.out (drawn0_below hd)); clear hd))
      go_ret2
      exact ⟨_, rfl, Kd.R_nil _ _ _ _ _, HB2.out⟩
end Go.Proofs.Ytjjnckgdpdelkaa.P
