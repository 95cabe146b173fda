/- What these laws reach, joined by a program of this session: contracts (written by that program over the kit's print, or by hand) and plain lemmas. -/
import Derived.Test.YtaebonckcbhofaaK3
import Derived.Test.YtaebonckcbhofaaK4
import Derived.Test.YtaebonckcbhofaaK5
-- spec.l4Sum makes the sum of two small sets.
namespace Go.Proofs.Ytaebonckcbhofaa.P
open Go.RowKit Go.Proofs.YtaebonckcbhofaaW.PrintWords Go.Proofs.YtaebonckcbhofaaW.PrintLast Go.Proofs.YtaebonckcbhofaaW.PrintMore
set_option linter.unusedVariables false
set_option linter.unusedSimpArgs false

/-- The sums, of different ones if so asked, of parts less than i. -/
noncomputable def sumB (f g : Nat → Bool) (diff : Bool) (n i : Nat) : Bool := dec (∃ k, k < i ∧ k ≤ n ∧ f k = true ∧ g (n - k) = true ∧ (diff = true → k ≠ n - k))
theorem sumB_zero (f g : Nat → Bool) (diff : Bool) (n : Nat) : sumB f g diff n 0 = false := dec_false fun ⟨k, h, _⟩ => by omega
theorem sumB_old {f g : Nat → Bool} {diff : Bool} {n i : Nat} (h : sumB f g diff n i = true) : sumB f g diff n (i + 1) = true := by
  obtain ⟨k, h1, h2⟩ := dec_iff.1 h
  exact dec_true ⟨k, by omega, h2⟩
theorem sumB_new {f g : Nat → Bool} {diff : Bool} {n i : Nat} (hi : i ≤ n) (h : sumB f g diff n i = false) : sumB f g diff n (i + 1) = (f i && (g (n - i) && (!diff || decide (i ≠ n - i)))) := by
  rw [Bool.eq_iff_iff, Bool.and_eq_true, Bool.and_eq_true, Bool.or_eq_true, Bool.not_eq_true', decide_eq_true_iff]
  unfold sumB
  rw [dec_iff]
  constructor
  · rintro ⟨k, h1, h2, h3, h4, h5⟩
    rcases Nat.lt_or_ge k i with x | x
    · have : sumB f g diff n i = true := dec_true ⟨k, x, h2, h3, h4, h5⟩
      rw [h] at this; cases this
    · have e : k = i := by omega
      subst e
      refine ⟨h3, h4, ?_⟩
      cases diff with
      | false => exact .inl rfl
      | true => exact .inr (h5 rfl)
  · rintro ⟨h1, h2, h3⟩
    refine ⟨i, by omega, hi, h1, h2, fun hd => ?_⟩
    rcases h3 with h3 | h3
    · rw [hd] at h3; cases h3
    · exact h3
theorem l4sum_l1 (a b c d : List Bool) (hb : b ≠ []) (hd : d ≠ []) (h1 : a.length ≤ 60) (h2 : b.length ≤ 60) (h3 : c.length ≤ 60) (h4 : d.length ≤ 60) (diff : Bool) (T L n : Nat) (hn : n ≤ 100000) (marks : List Bool) (hm : marks.length ≤ 1000) (v : ByteArray × Bool)
    (hv : Ev (fun k => spec_l4Sum.l0 k diff T L (marks ++ [sumB (hasB a b) (hasB c d) diff n (n + 1)]) ((n + 1 : Nat) : Int) a b c d) v) : ∀ (e i : Nat), i ≤ n + 1 → n + 1 - i = e →
    Ev (fun k => spec_l4Sum.l1 k diff T L marks n (sumB (hasB a b) (hasB c d) diff n i) i a b c d) v := by
  have HV := Aside0.mk hv
  clear hv
  have hlen : marks.length < 140737488355328 := by omega
  intro e
  induction e with
  | zero =>
    intro i hi he
    have e : i = n + 1 := by omega
    subst e
    refine Ev.step (fun k => ?_) HV.out
    simp only [spec_l4Sum.l1]
    rw [if_neg (by omega), if_pos hlen, wsucc (by omega)]
  | succ e ih =>
    intro i hi he
    have c1 : (i : Int) ≤ (n : Int) := by omega
    have c3 : i ≤ 4611686018427387904 := by omega
    have c4 : i ≤ n := by omega
    have c5 : n ≤ 4611686018427387904 := by omega
    have c6 : ((i : Int) ≠ ((n - i : Nat) : Int)) ↔ i ≠ n - i := by omega
    have hih := ih (i + 1) (by omega) (by omega)
    have e1 := shas_f a b hb (by omega) i (by omega)
    have e2 := shas_f c d hd (by omega) (n - i) (by omega)
    have hnew := sumB_new (f := hasB a b) (g := hasB c d) (diff := diff) c4
    have hold := sumB_old (f := hasB a b) (g := hasB c d) (diff := diff) (n := n) (i := i)
    cases hx : sumB (hasB a b) (hasB c d) diff n i with
    | true =>
      rw [hold hx] at hih
      refine Ev.step (fun k => ?_) hih
      simp only [spec_l4Sum.l1]
      rw [if_pos c1, if_pos (by trivial), wsucc c3]
    | false =>
      rw [hnew hx] at hih
      refine Ev.step (fun k => ?_) hih
      simp only [spec_l4Sum.l1]
      rw [if_pos c1, if_neg (by decide), e1, Option.bind_some]
      cases hf : hasB a b i with
      | false => rw [if_neg (by decide), wsucc c3, Bool.false_and]
      | true =>
        rw [if_pos (by trivial), wsub c4 c5, e2, Option.bind_some, Bool.true_and]
        cases hg : hasB c d (n - i) with
        | false => rw [if_neg (by decide), wsucc c3, Bool.false_and]
        | true =>
          rw [if_pos (by trivial), Bool.true_and]
          cases diff with
          | false => rw [if_neg (by decide), wsucc c3, Bool.not_false, Bool.true_or]
          | true =>
            rw [if_pos (by trivial), wsucc c3, Bool.not_true, Bool.false_or]
            have : ((i : Int) != ((n - i : Nat) : Int)) = decide (i ≠ n - i) := by
              rw [Bool.eq_iff_iff, decide_eq_true_iff, bne_iff_ne]; exact c6
            rw [this]
theorem l4sum_l0 (a b c d : List Bool) (hb : b ≠ []) (hd : d ≠ []) (h1 : a.length ≤ 60) (h2 : b.length ≤ 60) (h3 : c.length ≤ 60) (h4 : d.length ≤ 60) (diff : Bool) (q : Nat → Bool) (hq : ∀ n, sumB (hasB a b) (hasB c d) diff n (n + 1) = q n) (T L : Nat) (hL : 0 < L) (hTL : T + L ≤ 900) (hper : Per q T L) : ∀ (e n : Nat), n ≤ T + L → T + L - n = e →
    Ev (fun k => spec_l4Sum.l0 k diff T L (mkT q n) n a b c d) (txt (cn q)) := by
  intro e
  induction e with
  | zero =>
    intro n hi he
    have e : n = T + L := by omega
    subst e
    refine Ev.step (f := fun k => (spec_l2Fill.f k (mkT q (T + L)) (T : Int)).bind fun bt309 => (some (bt309.1, bt309.2))) (fun k => ?_) (Ev.bind (fill_f hL hper (by omega)) (Ev.now _))
    simp only [spec_l4Sum.l0]
    rw [wadd (by omega), if_neg (Int.lt_irrefl _)]
  | succ e ih =>
    intro n hi he
    have h5 := ih (n + 1) (by omega) (by omega)
    rw [mkT_succ, ← hq n] at h5
    have h6 := l4sum_l1 a b c d hb hd h1 h2 h3 h4 diff T L n (by omega) _ (by rw [mkT_length]; omega) _ h5 _ 0 (Nat.zero_le _) rfl
    rw [sumB_zero] at h6
    refine Ev.step (fun k => ?_) h6
    simp only [spec_l4Sum.l0]
    rw [wadd (by omega), if_pos (by omega)]; rfl
theorem l4sum_f (a b c d : List Bool) (hb : b ≠ []) (hd : d ≠ []) (h1 : a.length ≤ 8) (h2 : b.length ≤ 8) (h3 : c.length ≤ 8) (h4 : d.length ≤ 8) (diff : Bool) (q : Nat → Bool) (hq : ∀ n, sumB (hasB a b) (hasB c d) diff n (n + 1) = q n) (hper : Per q (2 * max a.length c.length + 3 * Nat.lcm b.length d.length + 2) (Nat.lcm b.length d.length)) : Ev (fun k => spec_l4Sum.f k a b c d diff) (txt (cn q)) := by
  have hp := List.length_pos_iff.2 hb
  have hp2 := List.length_pos_iff.2 hd
  have hL := lcm_le8 hp hp2 h2 h4
  have hL0 : 0 < Nat.lcm b.length d.length := Nat.lcm_pos hp hp2
  have hM : max a.length c.length ≤ 8 := by omega
  refine Ev.congr (fun k => rfl) (Ev.bind (shape_f a b c d (by omega) (by omega) hp) ?_)
  have h6 := l4sum_l0 a b c d hb hd (by omega) (by omega) (by omega) (by omega) diff q hq (2 * max a.length c.length + 3 * Nat.lcm b.length d.length + 2) (Nat.lcm b.length d.length) hL0 (by omega) hper _ 0 (Nat.zero_le _) rfl
  generalize max a.length c.length = M at *
  generalize Nat.lcm b.length d.length = L at *
  have e : wrap64 ((wrap64 ((wrap64 (2 * ((M : Nat) : Int))) + (wrap64 (3 * ((L : Nat) : Int))))) + 2) = ((2 * M + 3 * L + 2 : Nat) : Int) := by
    rw [w64 (x := 2 * (M : Int)) (by omega) (by omega), w64 (x := 3 * (L : Int)) (by omega) (by omega), w64 (x := 2 * (M : Int) + 3 * (L : Int)) (by omega) (by omega), w64 (by omega) (by omega)]; omega
  simp only [e]
  exact h6
theorem sumB_sumq (f g : Nat → Bool) (n : Nat) : sumB f g false n (n + 1) = sumq f g n := dec_congr ⟨fun ⟨k, _, h2, h3, h4, _⟩ => ⟨k, h2, h3, h4⟩, fun ⟨k, h2, h3, h4⟩ => ⟨k, by omega, h2, h3, h4, fun h => by cases h⟩⟩
theorem sumB_dblq (f : Nat → Bool) (n : Nat) : sumB f f true n (n + 1) = dblq f n := dec_congr ⟨fun ⟨k, _, h2, h3, h4, h5⟩ => ⟨k, h2, h3, h4, h5 rfl⟩, fun ⟨k, h2, h3, h4, h5⟩ => ⟨k, by omega, h2, h3, h4, fun _ => h5⟩⟩
end Go.Proofs.Ytaebonckcbhofaa.P

-- spec.SumOf.
namespace Go.Proofs.Ytaebonckcbhofaa.P
open Go.RowKit Go.Proofs.YtaebonckcbhofaaW.PrintWords Go.Proofs.YtaebonckcbhofaaW.PrintLast Go.Proofs.YtaebonckcbhofaaW.PrintMore
set_option linter.unusedVariables false
set_option linter.unusedSimpArgs false

theorem ssumOf_f (s t : ByteArray) (hs : s.size ≤ 70368744177664) (ht : t.size ≤ 70368744177664) : Ev (fun k => spec_SumOf.f k s t) (smr (chrs s) (chrs t)) := by
  obtain ⟨x, y, hev, hxy⟩ := l4small_f s hs
  obtain ⟨x2, y2, hev2, hxy2⟩ := l4small_f t ht
  refine Ev.congr (fun k => rfl) (Ev.bind hev (Ev.bind hev2 ?_))
  unfold smr
  cases hb : smallB (chrs s) with
  | false => simp only [Bool.false_eq_true, if_false, Bool.false_and]; exact Ev.now _
  | true =>
    cases hb2 : smallB (chrs t) with
    | false => simp only [Bool.false_eq_true, if_false, Bool.and_false, if_true]; exact Ev.now _
    | true =>
      obtain ⟨a, c, hp, hset, hm1, hm2, hpos, hper⟩ := smallB_ok hb
      obtain ⟨a2, c2, hp2, hset2, hm3, hm4, hpos2, hper2⟩ := smallB_ok hb2
      obtain ⟨rfl, rfl⟩ := hxy (by rw [hp]; rfl)
      obtain ⟨rfl, rfl⟩ := hxy2 (by rw [hp2]; rfl)
      have hh1 : hasB (cn (setf (chrs s))).1 (cn (setf (chrs s))).2 = setf (chrs s) := by rw [hset]; exact cn_has (parse_per hp).1 (parse_per hp).2
      have hh2 : hasB (cn (setf (chrs t))).1 (cn (setf (chrs t))).2 = setf (chrs t) := by rw [hset2]; exact cn_has (parse_per hp2).1 (parse_per hp2).2
      generalize (cn (setf (chrs s))).1 = x at *
      generalize (cn (setf (chrs s))).2 = y at *
      generalize (cn (setf (chrs t))).1 = x2 at *
      generalize (cn (setf (chrs t))).2 = y2 at *
      have hper3 : Per (sumq (hasB x y) (hasB x2 y2)) (2 * max x.length x2.length + 3 * Nat.lcm y.length y2.length + 2) (Nat.lcm y.length y2.length) := (sumq_per ((hasB_per x y).dvd (Nat.dvd_lcm_left _ _)) ((hasB_per x2 y2).dvd (Nat.dvd_lcm_right _ _))).mono (by omega)
      have := l4sum_f x y x2 y2 (List.length_pos_iff.1 hpos) (List.length_pos_iff.1 hpos2) hm1 hm2 hm3 hm4 false _ (fun n => sumB_sumq _ _ n) hper3
      rw [hh1, hh2] at this
      simp only [if_true, Bool.and_self]
      exact Ev.bind this (Ev.now _)
end Go.Proofs.Ytaebonckcbhofaa.P

-- impl.SetHas; the text of a tidy set, read again.
namespace Go.Proofs.Ytaebonckcbhofaa.P
open Go.RowKit Go.Proofs.YtaebonckcbhofaaW.PrintWords Go.Proofs.YtaebonckcbhofaaW.PrintLast Go.Proofs.YtaebonckcbhofaaW.PrintMore
set_option linter.unusedVariables false
set_option linter.unusedSimpArgs false

theorem isetHas_f (s : ByteArray) (hs : s.size ≤ 70368744177664) (n : Nat) (hn : n ≤ 1000000) : Ev (fun k => impl_SetHas.f k s n) (setf (chrs s) n) := by
  obtain ⟨x, y, hev, hxy⟩ := setOf_f s hs
  refine Ev.congr (fun k => rfl) (Ev.bind hev ?_)
  cases h : parse (chrs s) with
  | none => simp only [Option.isSome_none, Bool.false_eq_true, if_false, setf, h]; exact Ev.now _
  | some ab =>
    obtain ⟨rfl, rfl⟩ := hxy ab.1 ab.2 h
    have hb := parse_some (a := ab.1) (b := ab.2) h
    rw [setf_some (a := ab.1) (b := ab.2) h]
    simp only [Option.isSome_some, if_true, ihas_f ab.1 ab.2 hb.2.2 (by omega) n (by omega), Option.bind_some]
    exact Ev.now _
theorem isetHas_neg (s : ByteArray) (hs : s.size ≤ 70368744177664) (n : Int) (hn : n < 0) : Ev (fun k => impl_SetHas.f k s n) false := by
  obtain ⟨x, y, hev, hxy⟩ := setOf_f s hs
  refine Ev.congr (fun k => rfl) (Ev.bind hev ?_)
  simp only [ihas_neg x y n hn, Option.bind_some]
  cases (parse (chrs s)).isSome with
  | true => exact Ev.now _
  | false => exact Ev.now _
theorem txt_size (p : List Bool × List Bool) : (txt p).1.size ≤ 122 := by
  unfold txt
  split
  · show (textOf p.1 p.2).size ≤ 122; rw [textOf_size]; omega
  · show (0 : Nat) ≤ 122; omega
section
variable {q : Nat → Bool} {m p : Nat}
theorem txt_fits {t : List Bool × List Bool} (h : (txt t).2 = true) : t.1.length ≤ 60 ∧ t.2.length ≤ 60 := by
  unfold txt at h
  split at h
  · assumption
  · cases h
theorem txt_parse (hp : 0 < p) (h : Per q m p) (ht : (txt (cn q)).2 = true) : parse (chrs (txt (cn q)).1) = some ((cn q).1, (cn q).2) := by
  obtain ⟨h1, h2⟩ := txt_fits ht
  rw [txt_ok h1 h2]
  exact parse_cn hp h h1 h2
theorem txt_setf (hp : 0 < p) (h : Per q m p) (ht : (txt (cn q)).2 = true) : setf (chrs (txt (cn q)).1) = q := by
  rw [setf_some (txt_parse hp h ht), cn_has hp h]
theorem txt_tdy (hp : 0 < p) (h : Per q m p) (ht : (txt (cn q)).2 = true) : tdy (chrs (txt (cn q)).1) = ((txt (cn q)).1, true) := by
  obtain ⟨h1, h2⟩ := txt_fits ht
  rw [tdy_some (txt_parse hp h ht), cn_cn hp h, txt_ok h1 h2]
end
end Go.Proofs.Ytaebonckcbhofaa.P

-- Words for the laws that ask a text number by number.
namespace Go.Proofs.Ytaebonckcbhofaa.P
open Go.RowKit Go.Proofs.YtaebonckcbhofaaW.PrintWords Go.Proofs.YtaebonckcbhofaaW.PrintLast Go.Proofs.YtaebonckcbhofaaW.PrintMore
set_option linter.unusedVariables false
set_option linter.unusedSimpArgs false

theorem ite_ok {c : Bool} {A : ByteArray × Bool} (h : (if c = true then A else (⟨#[]⟩, false)).2 = true) : c = true ∧ A.2 = true := by
  cases c with
  | true => exact ⟨rfl, by simpa using h⟩
  | false => simp at h
theorem bne_no (b : Bool) : ¬ ((b != b) = true) := by cases b <;> decide
theorem down1 {k K : Nat} (h : K + 1 ≤ k) : ∃ j, k = j + 1 ∧ K ≤ j := ⟨k - 1, by omega, by omega⟩
end Go.Proofs.Ytaebonckcbhofaa.P

-- What SumOf and SumDouble answer, where they do.
namespace Go.Proofs.Ytaebonckcbhofaa.P
open Go.RowKit Go.Proofs.YtaebonckcbhofaaW.PrintWords Go.Proofs.YtaebonckcbhofaaW.PrintLast Go.Proofs.YtaebonckcbhofaaW.PrintMore
set_option linter.unusedVariables false
set_option linter.unusedSimpArgs false

theorem smr_ok {s t : List UInt8} (h : (smr s t).2 = true) : ∃ m p, 0 < p ∧ Per (sumq (setf s) (setf t)) m p ∧ smr s t = txt (cn (sumq (setf s) (setf t))) ∧ (txt (cn (sumq (setf s) (setf t)))).2 = true := by
  unfold smr at h ⊢
  obtain ⟨hc, hA⟩ := ite_ok h
  rw [if_pos hc]
  rw [Bool.and_eq_true] at hc
  obtain ⟨a, c, hp, hset, hm1, hm2, hpos, hper⟩ := smallB_ok hc.1
  obtain ⟨a2, c2, hp2, hset2, hm3, hm4, hpos2, hper2⟩ := smallB_ok hc.2
  exact ⟨_, _, Nat.lcm_pos hpos hpos2, sumq_per (hper.dvd (Nat.dvd_lcm_left _ _)) (hper2.dvd (Nat.dvd_lcm_right _ _)), rfl, hA⟩
theorem smr_small {s t : List UInt8} (h : (smr s t).2 = true) : smallB s = true ∧ smallB t = true := by
  unfold smr at h
  exact Bool.and_eq_true_iff.1 (ite_ok h).1
theorem smr_comm (s t : List UInt8) : smr s t = smr t s := by
  unfold smr
  rw [Bool.and_comm, sumq_comm]
theorem smr_sz (s t : List UInt8) : (smr s t).1.size ≤ 122 := by
  unfold smr
  split
  · exact txt_size _
  · show (0 : Nat) ≤ 122; omega
theorem dbr_ok {s : List UInt8} (h : (dbr s).2 = true) : ∃ m p, 0 < p ∧ Per (dblq (setf s)) m p ∧ dbr s = txt (cn (dblq (setf s))) ∧ (txt (cn (dblq (setf s)))).2 = true := by
  unfold dbr at h ⊢
  obtain ⟨hc, hA⟩ := ite_ok h
  rw [if_pos hc]
  obtain ⟨a, c, hp, hset, hm1, hm2, hpos, hper⟩ := smallB_ok hc
  exact ⟨_, _, hpos, dblq_per hper, rfl, hA⟩
end Go.Proofs.Ytaebonckcbhofaa.P

-- Two sets made one: what the laws need.
namespace Go.Proofs.Ytaebonckcbhofaa.P
open Go.RowKit Go.Proofs.YtaebonckcbhofaaW.PrintWords Go.Proofs.YtaebonckcbhofaaW.PrintLast Go.Proofs.YtaebonckcbhofaaW.PrintMore
set_option linter.unusedVariables false
set_option linter.unusedSimpArgs false

theorem two_ok {op : Bool → Bool → Bool} {s t : List UInt8} (h : (two op s t).2 = true) : ∃ m p, 0 < p ∧ Per (fun n => op (setf s n) (setf t n)) m p ∧ two op s t = txt (cn fun n => op (setf s n) (setf t n)) ∧ (txt (cn fun n => op (setf s n) (setf t n))).2 = true := by
  unfold two at h ⊢
  obtain ⟨hc, hA⟩ := ite_ok h
  rw [if_pos hc]
  rw [Bool.and_eq_true] at hc
  obtain ⟨⟨a, b⟩, hp⟩ := Option.isSome_iff_exists.1 hc.1
  obtain ⟨⟨c, d⟩, hp2⟩ := Option.isSome_iff_exists.1 hc.2
  have q1 := parse_some hp
  have q2 := parse_some hp2
  refine ⟨max a.length c.length, Nat.lcm b.length d.length, Nat.lcm_pos (List.length_pos_iff.2 q1.2.2) (List.length_pos_iff.2 q2.2.2), ?_, rfl, hA⟩
  rw [setf_some hp, setf_some hp2]
  exact pair_per ((hasB_per a b).lcm_left _ _) ((hasB_per c d).lcm_right _ _) op
end Go.Proofs.Ytaebonckcbhofaa.P

-- For every code the law FnSumEither holds.
namespace Go.Proofs.Ytaebonckcbhofaa.P
open Go.RowKit Go.Proofs.YtaebonckcbhofaaW.PrintWords Go.Proofs.YtaebonckcbhofaaW.PrintLast Go.Proofs.YtaebonckcbhofaaW.PrintMore
set_option linter.unusedVariables false
set_option linter.unusedSimpArgs false

theorem drawSumEither_f (l : List Int) (h : ∀ x ∈ l, (Lit.int .u8 x).wf = true) : ∃ (s t : ByteArray), Few s ∧ Few t ∧ Ev (fun k => spec_DrawSumOf.f k l) (s, t) := by
  obtain ⟨s, q, hf, hq, K0, h0⟩ := set91_f (code_of h) 0 (by omega)
  dsimp only at h0
  have g0 : ∀ k, K0 ≤ k → spec_l91Set.f k (l.take 2000) 0 = some (s, (q : Int)) := h0
  obtain ⟨t, q2, hf2, hq2, K1, h1⟩ := set91_f (code_of h) q (by omega)
  dsimp only at h1
  have g1 : ∀ k, K1 ≤ k → spec_l91Set.f k (l.take 2000) (q : Int) = some (t, (q2 : Int)) := h1
  refine ⟨s, t, hf, hf2, K0 + K1, fun k hk => ?_⟩
  try dsimp only
  unfold spec_DrawSumOf.f
  rw [open_f, Option.bind_some, g0 k (by omega), Option.bind_some, g1 k (by omega), Option.bind_some]
theorem sumEither_eq {s t u : List UInt8} (h1 : (smr s t).2 = true) (h2 : (two (fun x y => x || y) s u).2 = true) (h3 : (smr (chrs (two (fun x y => x || y) s u).1) t).2 = true) (h4 : (smr u t).2 = true) (h5 : (two (fun x y => x || y) (chrs (smr s t).1) (chrs (smr u t).1)).2 = true) :
    (smr (chrs (two (fun x y => x || y) s u).1) t).1 = (two (fun x y => x || y) (chrs (smr s t).1) (chrs (smr u t).1)).1 := by
  obtain ⟨_, _, a1, a2, a3, a4⟩ := smr_ok h1
  obtain ⟨_, _, b1, b2, b3, b4⟩ := two_ok h2
  obtain ⟨_, _, c1, c2, c3, c4⟩ := smr_ok h3
  obtain ⟨_, _, d1, d2, d3, d4⟩ := smr_ok h4
  obtain ⟨_, _, e1, e2, e3, e4⟩ := two_ok h5
  rw [c3, e3, b3, a3, d3, txt_setf b1 b2 b4, txt_setf a1 a2 a4, txt_setf d1 d2 d4]
  congr 3
  exact sumq_or (setf s) (setf u) (setf t)
theorem sumTwo_size (op : Bool → Bool → Bool) (s t : List UInt8) : (two op s t).1.size ≤ 122 := by
  unfold two
  split
  · exact txt_size _
  · show (0 : Nat) ≤ 122; omega
theorem lawSumEither_ev (l l2 : List Int) (h : ∀ x ∈ l, (Lit.int .u8 x).wf = true) (hh : ∀ x ∈ l2, (Lit.int .u8 x).wf = true) : Ev (fun k => laws_FnSumEither.f k l l2) true := by
  have out : ∀ k, laws_FnSumEither.j0 (k + 1) l l2 true = some true := fun k => by simp only [laws_FnSumEither.j0]; rfl
  by_cases hl : (l.length : Int) > 1048576
  · refine ⟨1, fun k hk => ?_⟩
    obtain ⟨k, rfl, hk2⟩ := down1 hk
    dsimp only
    try dsimp only
    unfold laws_FnSumEither.f
    rw [if_pos hl, out]
  · by_cases hl2 : (l2.length : Int) > 1048576
    · refine ⟨1, fun k hk => ?_⟩
      obtain ⟨k, rfl, hk2⟩ := down1 hk
      dsimp only
      try dsimp only
      unfold laws_FnSumEither.f
      rw [if_neg hl, decide_eq_true hl2, out]
    · obtain ⟨s, t, hf, hf2, K1, h1⟩ := drawSumEither_f l h
      dsimp only at h1
      obtain ⟨u, v, hf3, hf4, K5, h5⟩ := drawSumEither_f l2 hh
      dsimp only at h5
      have hz := hf.size
      have hz2 := hf2.size
      have hz3 := hf3.size
      have hs : s.size ≤ 70368744177664 := by omega
      have ht : t.size ≤ 70368744177664 := by omega
      have hu : u.size ≤ 70368744177664 := by omega
      obtain ⟨K2, h2⟩ := ssumOf_f s t hs ht
      dsimp only at h2
      have h3 := sumOf_f s t hs ht
      have main : ∀ k, laws_FnSumEither.j1 (k + 1) s t u (smr (chrs s) (chrs t)).1 (smr (chrs s) (chrs t)).2 (smr (chrs s) (chrs t)).1 (smr (chrs s) (chrs t)).2 (!(smr (chrs s) (chrs t)).2) = some true := by
        intro k
        simp only [laws_FnSumEither.j1]
        cases g1 : (smr (chrs s) (chrs t)).2 with
        | false => rfl
        | true =>
          have z1 := sumTwo_size (fun x y => x || y) (chrs s) (chrs u)
          have z2 := smr_sz (chrs s) (chrs t)
          have z3 := smr_sz (chrs u) (chrs t)
          rw [if_neg (by decide), makeEither_f s u hs hu, Option.bind_some, sumOf_f _ t (by omega) ht, Option.bind_some, sumOf_f u t hu ht, Option.bind_some, makeEither_f _ _ (by omega) (by omega), Option.bind_some]
          cases g2 : (two (fun x y => x || y) (chrs s) (chrs u)).2 with
          | false => rfl
          | true =>
            cases g3 : (smr (chrs (two (fun x y => x || y) (chrs s) (chrs u)).1) (chrs t)).2 with
            | false => rfl
            | true =>
              cases g4 : (smr (chrs u) (chrs t)).2 with
              | false => rfl
              | true =>
                cases g5 : (two (fun x y => x || y) (chrs (smr (chrs s) (chrs t)).1) (chrs (smr (chrs u) (chrs t)).1)).2 with
                | false => rfl
                | true => rw [if_pos (by trivial), if_pos (by trivial), if_pos (by trivial), if_pos (by trivial), sumEither_eq g1 g2 g3 g4 g5, BEq.rfl]
      refine ⟨K1 + K2 + K5 + 2, fun k hk => ?_⟩
      obtain ⟨k, rfl⟩ : ∃ j, k = j + 2 := ⟨k - 2, by omega⟩
      dsimp only
      try dsimp only
      unfold laws_FnSumEither.f
      rw [if_neg hl, decide_eq_false hl2]
      simp only [laws_FnSumEither.j0]
      rw [if_neg (by decide), h1 (k + 1) (by omega), Option.bind_some, h5 (k + 1) (by omega), Option.bind_some]
      try dsimp only
      rw [h3, Option.bind_some, h2 (k + 1) (by omega), Option.bind_some, if_pos (by trivial), if_neg (bne_no _)]
      exact main k
theorem lawSumEither_pure : laws_FnSumEither.Pure := fun l l2 _ _ h _ _ h2 => (lawSumEither_ev l l2 h h2).rounds
end Go.Proofs.Ytaebonckcbhofaa.P

-- For every code the law FnSumEither holds.
namespace Go.Proofs.Ytaebonckcbhofaa.Pure
theorem FnSumEither : Go.Proofs.Ytaebonckcbhofaa.P.laws_FnSumEither.Pure := Go.Proofs.Ytaebonckcbhofaa.P.lawSumEither_pure
end Go.Proofs.Ytaebonckcbhofaa.Pure
