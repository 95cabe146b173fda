/- What these laws reach, joined by a program of this session: contracts (written by that program over the kit's print, or by hand) and plain lemmas. -/
import Derived.Test.YtaebonckcbhofaaK1
import Derived.Test.YtaebonckcbhofaaK3
import Derived.Test.YtaebonckcbhofaaK4
import Derived.Test.YtaebonckcbhofaaK5
-- impl.turns and tidy come to the tidy form.
namespace Go.Proofs.Ytaebonckcbhofaa.P
open Go.RowKit Go.Proofs.YtaebonckcbhofaaW.PrintWords Go.Proofs.YtaebonckcbhofaaW.PrintLast Go.Proofs.YtaebonckcbhofaaW.PrintMore
set_option linter.unusedVariables false
set_option linter.unusedSimpArgs false
theorem turns_l0 (r : List Bool) (d : Nat) (hd : 0 < d) (hdl : d ≤ r.length) (hl : r.length ≤ 70368744177664) : ∀ (m i : Nat), i ≤ r.length → r.length - i = m →
    (∀ j, j < i → r.getD j false = r.getD (j % d) false) → ∃ b, Ev (fun k => impl_turns.l0 k r d r.length i) b ∧ (b = true ↔ IsPer r d) := by
  intro m
  induction m with
  | zero =>
    intro i h1 h2 h3
    have e : i = r.length := by omega
    refine ⟨((r.length : Int) % (d : Int)) == 0, Ev.step (f := fun k => some (((r.length : Int) % (d : Int)) == 0)) (fun k => ?_) (Ev.now _), ?_⟩
    · simp only [impl_turns.l0]; rw [if_neg (by omega), if_neg (by omega)]
    · have hm : (r.length : Int) % (d : Int) = ((r.length % d : Nat) : Int) := rfl
      rw [beq_iff_eq, hm]
      constructor
      · intro h; exact IsPer.of_mod (by omega) hd (fun j hj => h3 j (by omega))
      · intro h; have := h.1; omega
  | succ m ih =>
    intro i h1 h2 h3
    have hmod : Int.tmod (i : Int) (d : Int) = ((i % d : Nat) : Int) := by rw [Int.tmod_eq_emod_of_nonneg (by omega)]; rfl
    have hml := Nat.mod_lt i hd
    have hw : wrap64 ((i : Int) + 1) = ((i + 1 : Nat) : Int) := by rw [w64 (by omega) (by omega)]; omega
    by_cases he : r.getD i false = r.getD (i % d) false
    · obtain ⟨b, hb, hbi⟩ := ih (i + 1) (by omega) (by omega) (fun j hj => by
        rcases Nat.lt_or_ge j i with h | h
        · exact h3 j h
        · have : j = i := by omega
          subst this; exact he)
      refine ⟨b, Ev.step (fun k => ?_) hb, hbi⟩
      simp only [impl_turns.l0]
      rw [if_pos (by omega), if_pos (by omega), if_pos (by omega), if_neg (by omega), hmod, if_pos (by omega), if_pos (by omega), rdOf_nat, rdOf_nat, if_neg (by rw [he]; simp), hw]
    · refine ⟨false, Ev.step (f := fun k => some false) (fun k => ?_) (Ev.now _), ?_⟩
      · simp only [impl_turns.l0]
        rw [if_pos (by omega), if_pos (by omega), if_pos (by omega), if_neg (by omega), hmod, if_pos (by omega), if_pos (by omega), rdOf_nat, rdOf_nat, if_pos (by rw [bne_iff_ne]; exact he)]
      · constructor
        · intro h; exact absurd h (by decide)
        · intro h; exact absurd (h.mod hd i (by omega)) he
theorem turns_f (r : List Bool) (d : Nat) (hd : 0 < d) (hdl : d ≤ r.length) (hl : r.length ≤ 70368744177664) : ∃ b, Ev (fun k => impl_turns.f k r d) b ∧ (b = true ↔ IsPer r d) := by
  obtain ⟨b, h, hb⟩ := turns_l0 r d hd hdl hl _ 0 (by omega) rfl (fun j hj => by omega)
  exact ⟨b, by simpa [impl_turns.f] using h, hb⟩
theorem clone_f (l : List Bool) (h : l.length ≤ 70368744177664) : slices_Clone_bool_bool.f l = some l := by unfold slices_Clone_bool_bool.f; rw [if_pos h]

theorem tidy_l1 : ∀ (n : Nat) (t r : List Bool), t.length = n → Prim r → t.length + r.length ≤ 70368744177664 → ∃ t' r', Ev (fun k => impl_set_tidy.l1 k r.length t r) (t', r') ∧ Tidy t r t' r' := by
  intro n
  induction n with
  | zero =>
    intro t r hn hp hl
    have ht : t = [] := List.eq_nil_of_length_eq_zero hn
    subst ht
    refine ⟨[], r, Ev.step (f := fun k => some (([] : List Bool), r)) (fun k => ?_) (Ev.now _), ⟨hp, .inl rfl⟩, fun _ => rfl, Nat.le_refl _, Nat.le_refl _⟩
    simp only [impl_set_tidy.l1]; rw [if_neg (by simp)]
  | succ n ih =>
    intro t r hn hp hl
    have hr := hp.1
    have hpos := List.length_pos_iff.2 hr
    have ht : t ≠ [] := by intro e; rw [e] at hn; simp at hn
    have w1 : wrap64 ((t.length : Int) - 1) = ((t.length - 1 : Nat) : Int) := by rw [w64 (by omega) (by omega)]; omega
    have w2 : wrap64 ((r.length : Int) - 1) = ((r.length - 1 : Nat) : Int) := by rw [w64 (by omega) (by omega)]; omega
    by_cases he : t.getD (t.length - 1) false = r.getD (r.length - 1) false
    · obtain ⟨t', r', hev, htd⟩ := ih (t.take (t.length - 1)) (rotR r) (by rw [List.length_take]; omega) (prim_rot hp) (by rw [rotR_length hr, List.length_take]; omega)
      rw [rotR_length hr] at hev
      refine ⟨t', r', Ev.step (fun k => ?_) hev, htd.canon, fun x => by rw [htd.has, rot_has ht hr he], by have := htd.tl; rw [List.length_take] at this; omega, by have := htd.rl; rw [rotR_length hr] at this; omega⟩
      simp only [impl_set_tidy.l1]
      rw [if_pos (by omega), w1, w2, if_pos (by omega), if_pos (by omega), if_pos (by omega), if_pos (by omega), rdOf_nat, rdOf_nat, if_pos (by rw [he]; exact beq_self_eq_true _), if_pos (by omega)]
      simp only [Option.bind_some]
      rw [if_pos (by omega)]
      simp only [Int.toNat_natCast]
      rw [if_pos (by simp; omega)]
      rfl
    · refine ⟨t, r, Ev.step (f := fun k => some (t, r)) (fun k => ?_) (Ev.now _), ⟨hp, .inr he⟩, fun _ => rfl, Nat.le_refl _, Nat.le_refl _⟩
      simp only [impl_set_tidy.l1]
      rw [if_pos (by omega), w1, w2, if_pos (by omega), if_pos (by omega), if_pos (by omega), if_pos (by omega), rdOf_nat, rdOf_nat, if_neg (by rw [beq_iff_eq]; exact he)]

theorem tidy_l0 (t r : List Bool) (hr : r ≠ []) (hl : t.length + r.length ≤ 70368744177664) : ∀ (m d : Nat), 0 < d → d ≤ r.length → r.length - d = m → (∀ d', 0 < d' → d' < d → ¬ IsPer r d') →
    ∃ t' r', Ev (fun k => impl_set_tidy.l0 k d t r) (t', r') ∧ Tidy t r t' r' := by
  have hpos := List.length_pos_iff.2 hr
  have hn : IsPer r r.length := ⟨Nat.mod_self _, fun i a b => by omega⟩
  intro m
  induction m with
  | zero =>
    intro d h0 h1 h2 h3
    have e : d = r.length := by omega
    obtain ⟨b, hb, hbi⟩ := turns_f r d h0 h1 (by omega)
    have hbt : b = true := hbi.2 (by rw [e]; exact hn)
    have hp : IsPer r d := hbi.1 hbt
    subst hbt
    have hlt : (r.take d).length = d := by rw [List.length_take]; omega
    obtain ⟨t', r', hev, htd⟩ := tidy_l1 _ t (r.take d) rfl (prim_take h0 h1 hp h3) (by omega)
    rw [hlt] at hev
    refine ⟨t', r', Ev.step (f := fun k => (impl_turns.f k r d).bind fun t161 => (if t161 = true then impl_set_tidy.l1 k d t (r.take d) else (impl_set_tidy.l0 k (wrap64 (d + 1)) t r))) (fun k => ?_) (Ev.bind hb (by simpa using hev)), htd.canon, fun x => by rw [htd.has, take_has hp h0 h1], htd.tl, by have := htd.rl; omega⟩
    simp only [impl_set_tidy.l0]
    congr 1; funext x
    rw [clone_f _ (by omega)]
    simp only [Option.bind_some, Int.toNat_natCast]
    cases x with
    | true => rw [if_pos rfl, if_pos rfl, if_pos (by omega), if_pos (by omega), clone_f _ (by rw [hlt]; omega)]; rfl
    | false => rw [if_neg (by decide), if_neg (by decide)]
  | succ m ih =>
    intro d h0 h1 h2 h3
    obtain ⟨b, hb, hbi⟩ := turns_f r d h0 h1 (by omega)
    have hw : wrap64 ((d : Int) + 1) = ((d + 1 : Nat) : Int) := by rw [w64 (by omega) (by omega)]; omega
    have hlt : (r.take d).length = d := by rw [List.length_take]; omega
    have st : ∀ k, impl_set_tidy.l0 (k + 1) d t r = (impl_turns.f k r d).bind fun t161 => (if t161 = true then impl_set_tidy.l1 k d t (r.take d) else (impl_set_tidy.l0 k ((d + 1 : Nat) : Int) t r)) := fun k => by
      simp only [impl_set_tidy.l0]
      congr 1; funext x
      rw [clone_f _ (by omega)]
      simp only [Option.bind_some, Int.toNat_natCast]
      cases x with
      | true => rw [if_pos rfl, if_pos rfl, if_pos (by omega), if_pos (by omega), clone_f _ (by rw [hlt]; omega)]; rfl
      | false => rw [if_neg (by decide), if_neg (by decide), hw]
    by_cases hp : IsPer r d
    · have hbt := hbi.2 hp
      subst hbt
      obtain ⟨t', r', hev, htd⟩ := tidy_l1 _ t (r.take d) rfl (prim_take h0 h1 hp h3) (by omega)
      rw [hlt] at hev
      exact ⟨t', r', Ev.step st (Ev.bind hb (by simpa using hev)), htd.canon, fun x => by rw [htd.has, take_has hp h0 h1], htd.tl, by have := htd.rl; omega⟩
    · have hbt : b = false := by cases b; rfl; exact absurd (hbi.1 rfl) hp
      subst hbt
      obtain ⟨t', r', hev, htd⟩ := ih (d + 1) (by omega) (by omega) (by omega) (fun d' a b => by
            rcases Nat.lt_or_ge d' d with h | h
            · exact h3 d' a h
            · have : d' = d := by omega
              subst this; exact hp)
      exact ⟨t', r', Ev.step st (Ev.bind hb (by simpa using hev)), htd⟩
theorem tidy_f (t r : List Bool) (hr : r ≠ []) (hl : t.length + r.length ≤ 70368744177664) : ∃ t' r', Ev (fun k => impl_set_tidy.f k t r) (t', r') ∧ Tidy t r t' r' := by
  have hpos := List.length_pos_iff.2 hr
  obtain ⟨t', r', h, htd⟩ := tidy_l0 t r hr hl _ 1 (by omega) (by omega) rfl (fun d a b => by omega)
  exact ⟨t', r', by simpa [impl_set_tidy.f] using h, htd⟩

theorem tidy_cn (t r : List Bool) (hr : r ≠ []) (hl : t.length + r.length ≤ 70368744177664) : Ev (fun k => impl_set_tidy.f k t r) (cn (hasB t r)) := by
  obtain ⟨t', r', h, ht⟩ := tidy_f t r hr hl
  rw [ht.cn]; exact h

end Go.Proofs.Ytaebonckcbhofaa.P

-- impl.made over a question that is answered: the tidy text of the set.
namespace Go.Proofs.Ytaebonckcbhofaa.P
open Go.RowKit Go.Proofs.YtaebonckcbhofaaW.PrintWords Go.Proofs.YtaebonckcbhofaaW.PrintLast Go.Proofs.YtaebonckcbhofaaW.PrintMore
set_option linter.unusedVariables false
set_option linter.unusedSimpArgs false

theorem made_calls (q : Nat → Bool) (m p : Nat) (hp : 0 < p) (hper : Per q m p) (hl : m + p ≤ 1000000) (g : Nat) (lb : Array Value) (w : World)
    (eg : ∀ args w, (callFunc g args).run Try.prog w = .ok (.enter g args) w)
    (hc : ∀ (W : World) (i : Nat), Below w.heap.size w W → i < m + p → Calls Try.prog g (#[.int .i64 i] ++ lb) W fun e w' => e = .returned (.bool (q i)) ∧ Below W.heap.size W w') :
    Calls Try.prog 31 #[.int .i64 m, .int .i64 p, .func (.func g) #[] lb] w fun e w' => e = .returned (.tuple #[.string (txt (cn q)).1, .bool (txt (cn q)).2]) ∧ Below w.heap.size w w' := by
  have hs := cn_spec hp hper
  have h1 := tidy_cn (mkT q m) (mkR q m p) (mkR_ne q hp) (by rw [mkT_length, mkR_length]; omega)
  rw [mk_has hp hper] at h1
  have h2 := text_f (cn q).1 (cn q).2 (by omega)
  obtain ⟨k, hk⟩ := (Ev.bind (f := fun k y => impl_set_text.f k y.1 y.2) h1 h2).rounds
  have := impl_made.calls k (mkT q m) (mkR q m p) (txt (cn q)).1 (txt (cn q)).2 g lb w eg (fun W i hW hi => ?_) (by rw [mkT_length, mkR_length]; omega) hk
  · rw [mkT_length, mkR_length] at this; exact this
  · rw [mkT_length, mkR_length] at hi
    rw [← mkT_add, mkT_get q hi]; exact hc W i hW hi

end Go.Proofs.Ytaebonckcbhofaa.P

-- impl.single over a question that is answered: the tidy text of the set.
namespace Go.Proofs.Ytaebonckcbhofaa.P
open Go.RowKit Go.Proofs.YtaebonckcbhofaaW.PrintWords Go.Proofs.YtaebonckcbhofaaW.PrintLast Go.Proofs.YtaebonckcbhofaaW.PrintMore
set_option linter.unusedVariables false
set_option linter.unusedSimpArgs false

set_option maxHeartbeats 8000000 in
set_option maxRecDepth 100000 in
theorem single_q_calls (gh : Nat) (lbh : Array Value) (egh : ∀ args w, (callFunc gh args).run Try.prog w = .ok (.enter gh args) w) (b0 b1 : Nat) (v0 v1 : Value) (n : Nat) (r : Bool) (W : World)
    (h0 : W.cell? ⟨b0, 0, none⟩ = some (.func (.func gh) #[] lbh)) (h1 : W.cell? ⟨b1, 0, none⟩ = some v0) (h2 : W.cell? ⟨b1, 1, none⟩ = some v1)
    (hh : Calls Try.prog gh (#[.agg #[v0, v1], .int .i64 n] ++ lbh) W fun e w' => e = .returned (.bool r) ∧ Below W.heap.size W w') :
    Calls Try.prog 71 #[.int .i64 n, .pointer (some ⟨b0, 0, none⟩), .pointer (some ⟨b1, 0, none⟩)] W fun e w' => e = .returned (.bool r) ∧ Below W.heap.size W w' := by
  have hu := Try.underlying42
  have HH := Aside0.mk hh
  clear hh
  go_enter Try.func71, Try.ntmps71
  go_wp2_with (go_at_fn gh; refine HH.out.mono ?_; rintro e w' ⟨rfl, hb⟩)
  go_ret
  exact ⟨rfl, hb⟩

set_option maxHeartbeats 8000000 in
set_option maxRecDepth 100000 in
theorem single_calls (s : ByteArray) (hs : s.size ≤ 70368744177664) (may : Bool) (gh : Nat) (lbh : Array Value) (q : Nat → Bool) (w : World)
    (egh : ∀ args w, (callFunc gh args).run Try.prog w = .ok (.enter gh args) w)
    (hq : may = true → ∀ t r, parse (chrs s) = some (t, r) → Per q t.length r.length)
    (hh : may = true → ∀ t r, parse (chrs s) = some (t, r) → ∀ (W : World) (A0 : Option Addr) (c0 : Nat) (A1 : Option Addr) (c1 n : Nat), Below w.heap.size w W → Kd.C Kd.bool W A0 t.length t → t.length ≤ c0 → Kd.C Kd.bool W A1 r.length r → r.length ≤ c1 → n < t.length + r.length →
      Calls Try.prog gh (#[.agg #[.slice A0 t.length c0, .slice A1 r.length c1], .int .i64 n] ++ lbh) W fun e w' => e = .returned (.bool (q n)) ∧ Below W.heap.size W w') :
    Calls Try.prog 42 #[.string s, .bool may, .func (.func gh) #[] lbh] w fun e w' => e = .returned (.tuple #[.string (if (parse (chrs s)).isSome && may then txt (cn q) else (⟨#[]⟩, false)).1, .bool (if (parse (chrs s)).isSome && may then txt (cn q) else (⟨#[]⟩, false)).2]) ∧ Below w.heap.size w w' := by
  obtain ⟨x, y, hev, hxy⟩ := setOf_f s hs
  obtain ⟨k, hk⟩ := hev.rounds
  have hu := Try.underlying42
  have HH := Aside0.mk hh
  have HQ := Aside0.mk hq
  have HXY := Aside0.mk hxy
  have HK := Aside0.mk hk
  clear hh hq hxy hk hev
  cases hp : (parse (chrs s)).isSome with
  | false =>
    have hk := HK.out
    rw [hp] at hk
    have HK2 := Aside0.mk hk
    clear hp hk HK
    go_enter Try.func42, Try.ntmps42
    go_wp2_with (go_at_call 36; refine (impl_setOf.calls k s x y false _ HK2.out).mono ?_; rintro e w1 ⟨v0_, v1_, rfl, hR0, hR1, hb1⟩; obtain ⟨A0, n0, rfl, hn0, hC0⟩ := Kd.R_reads hR0; obtain ⟨A1, n1, rfl, hn1, hC1⟩ := Kd.R_reads hR1; clear hR0 hR1 hC0 hC1 hn0 hn1; have HB := Aside0.mk (below_step (below_alloc (Below.refl w.heap.size w) _) hb1); clear hb1)
    go_ret2
    refine ⟨rfl, ?_⟩
    repeat (first | exact HB.out | apply below_alloc | (refine below_set ?_ HB.out.size))
  | true =>
    obtain ⟨⟨a, b⟩, hpp⟩ := Option.isSome_iff_exists.1 hp
    obtain ⟨rfl, rfl⟩ := HXY.out a b hpp
    have hb := parse_some hpp
    have hk := HK.out
    rw [hp] at hk
    have HK2 := Aside0.mk hk
    have HL := Aside0.mk hb
    have HPP := Aside0.mk hpp
    clear hp hk HK HXY hpp hb
    cases may with
    | false =>
      go_enter Try.func42, Try.ntmps42
      go_wp2_with (go_at_call 36; refine (impl_setOf.calls k s x y true _ HK2.out).mono ?_; rintro e w1 ⟨v0_, v1_, rfl, hR0, hR1, hb1⟩; obtain ⟨A0, n0, rfl, hn0, hC0⟩ := Kd.R_reads hR0; obtain ⟨A1, n1, rfl, hn1, hC1⟩ := Kd.R_reads hR1; clear hR0 hR1 hC0 hC1 hn0 hn1; have HB := Aside0.mk (below_step (below_alloc (Below.refl w.heap.size w) _) hb1); clear hb1)
      go_ret2
      refine ⟨rfl, ?_⟩
      repeat (first | exact HB.out | apply below_alloc | (refine below_set ?_ HB.out.size))
    | true =>
      have eg : ∀ args w, (callFunc 71 args).run Try.prog w = .ok (.enter 71 args) w := enters_of Try.func71 (by kernel_rfl) rfl
      have EG := Aside0.mk eg
      have HH2 := Aside0.mk (HH.out rfl x y HPP.out)
      have HP := Aside0.mk (HQ.out rfl x y HPP.out)
      clear eg HH HQ HPP
      go_enter Try.func42, Try.ntmps42
      go_wp2_with (first
        | (go_at_call 36; refine (impl_setOf.calls k s x y true _ HK2.out).mono ?_; rintro e w1 ⟨v0_, v1_, rfl, hR0, hR1, hb1⟩; obtain ⟨A0, n0, rfl, hn0, hC0⟩ := Kd.R_reads hR0; obtain ⟨A1, n1, rfl, hn1, hC1⟩ := Kd.R_reads hR1; have C0 := Aside0.mk hC0; have C1 := Aside0.mk hC1; have N0 := Aside0.mk hn0; have N1 := Aside0.mk hn1; clear hR0 hR1 hC0 hC1 hn0 hn1; have HB := Aside0.mk (below_step (below_alloc (Below.refl w.heap.size w) _) hb1); have F0 := Aside0.mk ((hb1.cell (p := ⟨w.heap.size, 0, none⟩) (by simp)).trans (by simp : (w.alloc (.cells #[.func (.func gh) #[] lbh] _)).cell? ⟨w.heap.size, 0, none⟩ = some (.func (.func gh) #[] lbh))); have L0 := Aside0.mk (Nat.lt_of_lt_of_le (by simp) hb1.size : w.heap.size < w1.heap.size); clear hb1)
        | (go_at_call 31; refine (made_calls q x.length y.length (List.length_pos_iff.2 HL.out.2.2) HP.out (by have := HL.out; omega) 71 _ _ EG.out ?hc).mono ?_; (case hc =>
            intro W i hW hi
            have hBW := below_step (below_alloc (Below.refl w1.heap.size w1) _) hW
            exact single_q_calls gh lbh egh w.heap.size w1.heap.size _ _ i (q i) W ((hBW.cell (p := ⟨w.heap.size, 0, none⟩) L0.out).trans F0.out) ((hW.cell (p := ⟨w1.heap.size, 0, none⟩) (by simp)).trans (by simp)) ((hW.cell (p := ⟨w1.heap.size, 1, none⟩) (by simp)).trans (by simp)) (HH2.out W A0 n0 A1 n1 i (below_step HB.out hBW) (Kd.C_below C0.out hBW) N0.out (Kd.C_below C1.out hBW) N1.out hi)); rintro e w2 ⟨rfl, hb2⟩))
      go_ret2
      exact ⟨rfl, below_step (below_alloc HB.out _) hb2⟩
end Go.Proofs.Ytaebonckcbhofaa.P

-- impl.RestAll.
namespace Go.Proofs.Ytaebonckcbhofaa.P
open Go.RowKit Go.Proofs.YtaebonckcbhofaaW.PrintWords Go.Proofs.YtaebonckcbhofaaW.PrintLast Go.Proofs.YtaebonckcbhofaaW.PrintMore
set_option linter.unusedVariables false
set_option linter.unusedSimpArgs false

noncomputable def impl_RestAll.f (s t : ByteArray) : Option (ByteArray × Bool) := if s.size ≤ 70368744177664 ∧ t.size ≤ 70368744177664 then some (rsr (chrs s) (chrs t) true) else none
theorem restAll_f (s t : ByteArray) (hs : s.size ≤ 70368744177664) (ht : t.size ≤ 70368744177664) : impl_RestAll.f s t = some (rsr (chrs s) (chrs t) true) := by unfold impl_RestAll.f; rw [if_pos ⟨hs, ht⟩]

set_option maxHeartbeats 8000000 in
set_option maxRecDepth 100000 in
theorem restAll_q_calls (t r t2 r2 : List Bool) (hr : r ≠ []) (hr2 : r2 ≠ []) (hl : t.length ≤ 60 ∧ r.length ≤ 60) (hl2 : t2.length ≤ 60 ∧ r2.length ≤ 60) (A0 : Option Addr) (c0 : Nat) (A1 : Option Addr) (c1 : Nat) (A2 : Option Addr) (c2 : Nat) (A3 : Option Addr) (c3 n b : Nat) (hn : n ≤ 1000000) (W : World)
    (hC0 : Kd.C Kd.bool W A0 t.length t) (h0 : t.length ≤ c0) (hC1 : Kd.C Kd.bool W A1 r.length r) (h1 : r.length ≤ c1) (hC2 : Kd.C Kd.bool W A2 t2.length t2) (h2 : t2.length ≤ c2) (hC3 : Kd.C Kd.bool W A3 r2.length r2) (h3 : r2.length ≤ c3)
    (hb0 : W.cell? ⟨b, 0, none⟩ = some (.slice A2 t2.length c2)) (hb1 : W.cell? ⟨b, 1, none⟩ = some (.slice A3 r2.length c3)) :
    Calls Try.prog 45 #[.agg #[.slice A0 t.length c0, .slice A1 r.length c1], .int .i64 n, .pointer (some ⟨b, 0, none⟩)] W fun e w' => e = .returned (.bool (qs (hasB t r) (hasB t2 r2) true n)) ∧ Below W.heap.size W w' := by
  obtain ⟨k, hk⟩ := (some_f t r t2 r2 hr hr2 hl.1 hl.2 hl2.1 hl2.2 true n hn).rounds
  have HC := fun (o : Obj) => Aside0.mk (impl_set_some.calls k A0 c0 t A1 c1 r A2 c2 t2 A3 c3 r2 (n : Int) true (qs (hasB t r) (hasB t2 r2) true n) (W.alloc o) (Kd.C_alloc hC0 o) h0 (Kd.C_alloc hC1 o) h1 (Kd.C_alloc hC2 o) h2 (Kd.C_alloc hC3 o) h3 hk)
  have hx0 : ∀ o, (W.alloc o).cell? ⟨b, 0, none⟩ = some (.slice A2 t2.length c2) := fun o => Lib.cell?_alloc_some _ hb0
  have hx1 : ∀ o, (W.alloc o).cell? ⟨b, 1, none⟩ = some (.slice A3 r2.length c3) := fun o => Lib.cell?_alloc_some _ hb1
  have hu := Try.underlying42
  generalize qs (hasB t r) (hasB t2 r2) true n = res at *
  clear hC0 hC1 hC2 hC3 h0 h1 h2 h3 hl hl2 hr hr2 hb0 hb1 hk
  go_enter Try.func45, Try.ntmps45
  go_wp2_with (go_at_call 44; refine (HC _).out.mono ?_; rintro e w' ⟨rfl, hb⟩)
  go_ret
  exact ⟨rfl, below_step (below_alloc (Below.refl _ _) _) hb⟩

set_option maxHeartbeats 8000000 in
set_option maxRecDepth 100000 in
theorem impl_RestAll.calls (a0 a1 : ByteArray) (r1 : ByteArray) (r2 : Bool) (w : World) (h : impl_RestAll.f a0 a1 = some (r1, r2)) :
    Calls Try.prog 18 #[.string a0, .string a1] w fun e w' => e = .returned (.tuple #[.string r1, .bool r2]) ∧ Below w.heap.size w w' := by
  unfold impl_RestAll.f at h
  split at h
  · rename_i hs
    simp only [Option.some.injEq] at h
    obtain ⟨x, y, hev, hxy⟩ := setOf_f a1 hs.2
    obtain ⟨k, hk⟩ := hev.rounds
    have eg : ∀ args w, (callFunc 45 args).run Try.prog w = .ok (.enter 45 args) w := enters_of Try.func45 (by kernel_rfl) rfl
    obtain ⟨bm, hbm⟩ : ∃ bm, (parse (chrs a1)).isSome = bm := ⟨_, rfl⟩
    rw [hbm] at hk
    have hx : ∀ (w1 : World) (b : Nat) (A2 : Option Addr) (c2 : Nat) (A3 : Option Addr) (c3 : Nat), Kd.C Kd.bool w1 A2 x.length x → x.length ≤ c2 → Kd.C Kd.bool w1 A3 y.length y → y.length ≤ c3 → w1.cell? ⟨b, 0, none⟩ = some (.slice A2 x.length c2) → w1.cell? ⟨b, 1, none⟩ = some (.slice A3 y.length c3) → b < w1.heap.size →
        Calls Try.prog 42 #[.string a0, .bool bm, .func (.func 45) #[] #[.pointer (some ⟨b, 0, none⟩)]] w1 fun e w' => e = .returned (.tuple #[.string r1, .bool r2]) ∧ Below w1.heap.size w1 w' := by
      intro w1 b A2 c2 A3 c3 hC2 h2 hC3 h3 hb0 hb1 hlt
      have := single_calls a0 hs.1 bm 45 #[.pointer (some ⟨b, 0, none⟩)] (qs (setf (chrs a0)) (setf (chrs a1)) true) w1 eg
        (fun _ t r hp => by rw [setf_some hp]; exact qs_per (hasB_per t r) _ _)
        (fun hm t r hp W A0 c0 A1 c1 n hW hC0 h0 hC1 h1 hn => by
          have hb := parse_some hp
          rw [← hbm] at hm
          obtain ⟨⟨a, c⟩, hpp⟩ := Option.isSome_iff_exists.1 hm
          obtain ⟨rfl, rfl⟩ := hxy a c hpp
          have hb2 := parse_some hpp
          rw [setf_some hp, setf_some hpp]
          exact restAll_q_calls t r x y hb.2.2 hb2.2.2 ⟨hb.1, hb.2.1⟩ ⟨hb2.1, hb2.2.1⟩ A0 c0 A1 c1 A2 c2 A3 c3 n b (by omega) W hC0 h0 hC1 h1 (Kd.C_below hC2 hW) h2 (Kd.C_below hC3 hW) h3 ((hW.cell (p := ⟨b, 0, none⟩) hlt).trans hb0) ((hW.cell (p := ⟨b, 1, none⟩) hlt).trans hb1))
      unfold rsr at h
      rw [hbm] at h
      rw [h] at this
      exact this
    have HX := Aside0.mk hx
    have HK := fun w => Aside0.mk (impl_setOf.calls k a1 x y bm w hk)
    have hu := Try.underlying42
    clear hx h hs eg hk hev hxy hbm
    go_enter Try.func18, Try.ntmps18
    go_wp2_with (first
      | (go_at_call 36; refine (HK _).out.mono ?_; rintro e w1 ⟨v0_, v1_, rfl, hR0, hR1, hb1⟩; obtain ⟨A0, n0, rfl, hn0, hC0⟩ := Kd.R_reads hR0; obtain ⟨A1, n1, rfl, hn1, hC1⟩ := Kd.R_reads hR1; have C0 := Aside0.mk hC0; have C1 := Aside0.mk hC1; have N0 := Aside0.mk hn0; have N1 := Aside0.mk hn1; clear hR0 hR1 hC0 hC1 hn0 hn1; have HB := Aside0.mk hb1; clear hb1)
      | (go_at_call 42; refine (HX.out _ w1.heap.size A0 n0 A1 n1 (Kd.C_alloc C0.out _) N0.out (Kd.C_alloc C1.out _) N1.out (by simp) (by simp) (by simp)).mono ?_; rintro e w2 ⟨rfl, hb2⟩))
    go_ret2
    exact ⟨rfl, below_step (below_alloc HB.out _) hb2⟩
  · cases h
end Go.Proofs.Ytaebonckcbhofaa.P

-- impl.RestSome.
namespace Go.Proofs.Ytaebonckcbhofaa.P
open Go.RowKit Go.Proofs.YtaebonckcbhofaaW.PrintWords Go.Proofs.YtaebonckcbhofaaW.PrintLast Go.Proofs.YtaebonckcbhofaaW.PrintMore
set_option linter.unusedVariables false
set_option linter.unusedSimpArgs false

noncomputable def impl_RestSome.f (s t : ByteArray) : Option (ByteArray × Bool) := if s.size ≤ 70368744177664 ∧ t.size ≤ 70368744177664 then some (rsr (chrs s) (chrs t) false) else none
theorem restSome_f (s t : ByteArray) (hs : s.size ≤ 70368744177664) (ht : t.size ≤ 70368744177664) : impl_RestSome.f s t = some (rsr (chrs s) (chrs t) false) := by unfold impl_RestSome.f; rw [if_pos ⟨hs, ht⟩]

set_option maxHeartbeats 8000000 in
set_option maxRecDepth 100000 in
theorem restSome_q_calls (t r t2 r2 : List Bool) (hr : r ≠ []) (hr2 : r2 ≠ []) (hl : t.length ≤ 60 ∧ r.length ≤ 60) (hl2 : t2.length ≤ 60 ∧ r2.length ≤ 60) (A0 : Option Addr) (c0 : Nat) (A1 : Option Addr) (c1 : Nat) (A2 : Option Addr) (c2 : Nat) (A3 : Option Addr) (c3 n b : Nat) (hn : n ≤ 1000000) (W : World)
    (hC0 : Kd.C Kd.bool W A0 t.length t) (h0 : t.length ≤ c0) (hC1 : Kd.C Kd.bool W A1 r.length r) (h1 : r.length ≤ c1) (hC2 : Kd.C Kd.bool W A2 t2.length t2) (h2 : t2.length ≤ c2) (hC3 : Kd.C Kd.bool W A3 r2.length r2) (h3 : r2.length ≤ c3)
    (hb0 : W.cell? ⟨b, 0, none⟩ = some (.slice A2 t2.length c2)) (hb1 : W.cell? ⟨b, 1, none⟩ = some (.slice A3 r2.length c3)) :
    Calls Try.prog 43 #[.agg #[.slice A0 t.length c0, .slice A1 r.length c1], .int .i64 n, .pointer (some ⟨b, 0, none⟩)] W fun e w' => e = .returned (.bool (qs (hasB t r) (hasB t2 r2) false n)) ∧ Below W.heap.size W w' := by
  obtain ⟨k, hk⟩ := (some_f t r t2 r2 hr hr2 hl.1 hl.2 hl2.1 hl2.2 false n hn).rounds
  have HC := fun (o : Obj) => Aside0.mk (impl_set_some.calls k A0 c0 t A1 c1 r A2 c2 t2 A3 c3 r2 (n : Int) false (qs (hasB t r) (hasB t2 r2) false n) (W.alloc o) (Kd.C_alloc hC0 o) h0 (Kd.C_alloc hC1 o) h1 (Kd.C_alloc hC2 o) h2 (Kd.C_alloc hC3 o) h3 hk)
  have hx0 : ∀ o, (W.alloc o).cell? ⟨b, 0, none⟩ = some (.slice A2 t2.length c2) := fun o => Lib.cell?_alloc_some _ hb0
  have hx1 : ∀ o, (W.alloc o).cell? ⟨b, 1, none⟩ = some (.slice A3 r2.length c3) := fun o => Lib.cell?_alloc_some _ hb1
  have hu := Try.underlying42
  generalize qs (hasB t r) (hasB t2 r2) false n = res at *
  clear hC0 hC1 hC2 hC3 h0 h1 h2 h3 hl hl2 hr hr2 hb0 hb1 hk
  go_enter Try.func43, Try.ntmps43
  go_wp2_with (go_at_call 44; refine (HC _).out.mono ?_; rintro e w' ⟨rfl, hb⟩)
  go_ret
  exact ⟨rfl, below_step (below_alloc (Below.refl _ _) _) hb⟩

set_option maxHeartbeats 8000000 in
set_option maxRecDepth 100000 in
theorem impl_RestSome.calls (a0 a1 : ByteArray) (r1 : ByteArray) (r2 : Bool) (w : World) (h : impl_RestSome.f a0 a1 = some (r1, r2)) :
    Calls Try.prog 17 #[.string a0, .string a1] w fun e w' => e = .returned (.tuple #[.string r1, .bool r2]) ∧ Below w.heap.size w w' := by
  unfold impl_RestSome.f at h
  split at h
  · rename_i hs
    simp only [Option.some.injEq] at h
    obtain ⟨x, y, hev, hxy⟩ := setOf_f a1 hs.2
    obtain ⟨k, hk⟩ := hev.rounds
    have eg : ∀ args w, (callFunc 43 args).run Try.prog w = .ok (.enter 43 args) w := enters_of Try.func43 (by kernel_rfl) rfl
    obtain ⟨bm, hbm⟩ : ∃ bm, (parse (chrs a1)).isSome = bm := ⟨_, rfl⟩
    rw [hbm] at hk
    have hx : ∀ (w1 : World) (b : Nat) (A2 : Option Addr) (c2 : Nat) (A3 : Option Addr) (c3 : Nat), Kd.C Kd.bool w1 A2 x.length x → x.length ≤ c2 → Kd.C Kd.bool w1 A3 y.length y → y.length ≤ c3 → w1.cell? ⟨b, 0, none⟩ = some (.slice A2 x.length c2) → w1.cell? ⟨b, 1, none⟩ = some (.slice A3 y.length c3) → b < w1.heap.size →
        Calls Try.prog 42 #[.string a0, .bool bm, .func (.func 43) #[] #[.pointer (some ⟨b, 0, none⟩)]] w1 fun e w' => e = .returned (.tuple #[.string r1, .bool r2]) ∧ Below w1.heap.size w1 w' := by
      intro w1 b A2 c2 A3 c3 hC2 h2 hC3 h3 hb0 hb1 hlt
      have := single_calls a0 hs.1 bm 43 #[.pointer (some ⟨b, 0, none⟩)] (qs (setf (chrs a0)) (setf (chrs a1)) false) w1 eg
        (fun _ t r hp => by rw [setf_some hp]; exact qs_per (hasB_per t r) _ _)
        (fun hm t r hp W A0 c0 A1 c1 n hW hC0 h0 hC1 h1 hn => by
          have hb := parse_some hp
          rw [← hbm] at hm
          obtain ⟨⟨a, c⟩, hpp⟩ := Option.isSome_iff_exists.1 hm
          obtain ⟨rfl, rfl⟩ := hxy a c hpp
          have hb2 := parse_some hpp
          rw [setf_some hp, setf_some hpp]
          exact restSome_q_calls t r x y hb.2.2 hb2.2.2 ⟨hb.1, hb.2.1⟩ ⟨hb2.1, hb2.2.1⟩ A0 c0 A1 c1 A2 c2 A3 c3 n b (by omega) W hC0 h0 hC1 h1 (Kd.C_below hC2 hW) h2 (Kd.C_below hC3 hW) h3 ((hW.cell (p := ⟨b, 0, none⟩) hlt).trans hb0) ((hW.cell (p := ⟨b, 1, none⟩) hlt).trans hb1))
      unfold rsr at h
      rw [hbm] at h
      rw [h] at this
      exact this
    have HX := Aside0.mk hx
    have HK := fun w => Aside0.mk (impl_setOf.calls k a1 x y bm w hk)
    have hu := Try.underlying42
    clear hx h hs eg hk hev hxy hbm
    go_enter Try.func17, Try.ntmps17
    go_wp2_with (first
      | (go_at_call 36; refine (HK _).out.mono ?_; rintro e w1 ⟨v0_, v1_, rfl, hR0, hR1, hb1⟩; obtain ⟨A0, n0, rfl, hn0, hC0⟩ := Kd.R_reads hR0; obtain ⟨A1, n1, rfl, hn1, hC1⟩ := Kd.R_reads hR1; have C0 := Aside0.mk hC0; have C1 := Aside0.mk hC1; have N0 := Aside0.mk hn0; have N1 := Aside0.mk hn1; clear hR0 hR1 hC0 hC1 hn0 hn1; have HB := Aside0.mk hb1; clear hb1)
      | (go_at_call 42; refine (HX.out _ w1.heap.size A0 n0 A1 n1 (Kd.C_alloc C0.out _) N0.out (Kd.C_alloc C1.out _) N1.out (by simp) (by simp) (by simp)).mono ?_; rintro e w2 ⟨rfl, hb2⟩))
    go_ret2
    exact ⟨rfl, below_step (below_alloc HB.out _) hb2⟩
  · cases h
end Go.Proofs.Ytaebonckcbhofaa.P

-- impl.tidied reads and makes tidy.
namespace Go.Proofs.Ytaebonckcbhofaa.P
open Go.RowKit Go.Proofs.YtaebonckcbhofaaW.PrintWords Go.Proofs.YtaebonckcbhofaaW.PrintLast Go.Proofs.YtaebonckcbhofaaW.PrintMore
set_option linter.unusedVariables false
set_option linter.unusedSimpArgs false

/-- What impl.tidied answers. -/
noncomputable def tdd (s : List UInt8) : List Bool × List Bool × Bool := match parse s with | some (a, b) => ((cn (hasB a b)).1, (cn (hasB a b)).2, true) | none => ([], [], false)
theorem tidied_f (s : ByteArray) (hs : s.size ≤ 70368744177664) : Ev (fun k => impl_tidied.f k s) (tdd (chrs s)) := by
  obtain ⟨x, y, h, hp⟩ := setOf_f s hs
  unfold tdd
  cases h0 : parse (chrs s) with
  | none =>
    rw [h0] at h
    refine Ev.congr (f := fun k => (impl_setOf.f k s).bind fun bt186 => (if bt186.2.2 = true then ((impl_set_tidy.f k bt186.1 bt186.2.1).bind fun bt194 => (some (bt194.1, bt194.2, true))) else (some (([] : List Bool), ([] : List Bool), false)))) (fun k => rfl) (Ev.bind h (by simpa using Ev.now _))
  | some ab =>
    obtain ⟨a, b⟩ := ab
    obtain ⟨rfl, rfl⟩ := hp a b h0
    rw [h0] at h
    have hb := parse_some h0
    have ht := tidy_cn x y hb.2.2 (by omega)
    refine Ev.congr (f := fun k => (impl_setOf.f k s).bind fun bt186 => (if bt186.2.2 = true then ((impl_set_tidy.f k bt186.1 bt186.2.1).bind fun bt194 => (some (bt194.1, bt194.2, true))) else (some (([] : List Bool), ([] : List Bool), false)))) (fun k => rfl) (Ev.bind h ?_)
    simp only [Option.isSome_some, if_true]
    exact Ev.bind ht (Ev.now _)

end Go.Proofs.Ytaebonckcbhofaa.P

-- impl.SetTidy tells the tidy text.
namespace Go.Proofs.Ytaebonckcbhofaa.P
open Go.RowKit Go.Proofs.YtaebonckcbhofaaW.PrintWords Go.Proofs.YtaebonckcbhofaaW.PrintLast Go.Proofs.YtaebonckcbhofaaW.PrintMore
set_option linter.unusedVariables false
set_option linter.unusedSimpArgs false

theorem isetTidy_f (s : ByteArray) (hs : s.size ≤ 70368744177664) : Ev (fun k => impl_SetTidy.f k s) (tdy (chrs s)) := by
  refine Ev.congr (fun k => rfl) (Ev.bind (tidied_f s hs) ?_)
  unfold tdd tdy
  cases h : parse (chrs s) with
  | none => simp only [Bool.false_eq_true, if_false]; exact Ev.now _
  | some ab =>
    have hb := parse_some h
    have ht := cn_tidy (t := ab.1) hb.2.2
    have h1 := ht.tl
    have h2 := ht.rl
    simp only [if_true]
    have := text_f (cn (hasB ab.1 ab.2)).1 (cn (hasB ab.1 ab.2)).2 (by omega)
    rw [txt_ok (by show (cn (hasB ab.1 ab.2)).1.length ≤ 60; omega) (by show (cn (hasB ab.1 ab.2)).2.length ≤ 60; omega)] at this
    exact Ev.bind this (Ev.now _)

end Go.Proofs.Ytaebonckcbhofaa.P

-- impl.SetSame compares the tidy texts.
namespace Go.Proofs.Ytaebonckcbhofaa.P
open Go.RowKit Go.Proofs.YtaebonckcbhofaaW.PrintWords Go.Proofs.YtaebonckcbhofaaW.PrintLast Go.Proofs.YtaebonckcbhofaaW.PrintMore
set_option linter.unusedVariables false
set_option linter.unusedSimpArgs false

theorem isetSame_f (s t : ByteArray) (hs : s.size ≤ 70368744177664) (ht : t.size ≤ 70368744177664) : Ev (fun k => impl_SetSame.f k s t) (sameS (chrs s) (chrs t)) := by
  refine Ev.congr (fun k => rfl) (Ev.bind (isetTidy_f s hs) (Ev.bind (isetTidy_f t ht) ?_))
  unfold sameS
  cases (tdy (chrs s)).2 with
  | false => exact Ev.now _
  | true =>
    cases (tdy (chrs t)).2 with
    | false => exact Ev.now _
    | true => exact Ev.now _

end Go.Proofs.Ytaebonckcbhofaa.P

-- impl.small reads a small set, tidily.
namespace Go.Proofs.Ytaebonckcbhofaa.P
open Go.RowKit Go.Proofs.YtaebonckcbhofaaW.PrintWords Go.Proofs.YtaebonckcbhofaaW.PrintLast Go.Proofs.YtaebonckcbhofaaW.PrintMore
set_option linter.unusedVariables false
set_option linter.unusedSimpArgs false

theorem small_f (s : ByteArray) (hs : s.size ≤ 70368744177664) : ∃ x y, Ev (fun k => impl_small.f k s) (x, y, smallB (chrs s)) ∧ ((parse (chrs s)).isSome = true → x = (cn (setf (chrs s))).1 ∧ y = (cn (setf (chrs s))).2) := by
  have h := tidied_f s hs
  unfold tdd at h
  unfold smallB
  cases hp : parse (chrs s) with
  | none =>
    rw [hp] at h
    refine ⟨[], [], ?_, fun h => by simp at h⟩
    refine Ev.congr (fun k => rfl) (Ev.bind h ?_)
    simp only [Bool.false_eq_true, if_false, Option.isSome_none, Bool.false_and]
    exact Ev.now _
  | some ab =>
    rw [hp] at h
    have hset := setf_some (a := ab.1) (b := ab.2) hp
    refine ⟨(cn (hasB ab.1 ab.2)).1, (cn (hasB ab.1 ab.2)).2, ?_, fun _ => by rw [hset]; exact ⟨rfl, rfl⟩⟩
    refine Ev.congr (fun k => rfl) (Ev.bind h ?_)
    rw [hset, Option.isSome_some, Bool.true_and]
    simp only [if_true]
    by_cases h1 : (cn (hasB ab.1 ab.2)).1.length ≤ 8
    · by_cases h2 : (cn (hasB ab.1 ab.2)).2.length ≤ 8
      · rw [dec_true (show Small _ from ⟨h1, h2⟩)]
        simp only [if_pos (show ((cn (hasB ab.1 ab.2)).1.length : Int) ≤ 8 by omega), decide_eq_true (show ((cn (hasB ab.1 ab.2)).2.length : Int) ≤ 8 by omega)]
        exact Ev.now _
      · rw [dec_false (fun h : Small _ => h2 h.2)]
        simp only [if_pos (show ((cn (hasB ab.1 ab.2)).1.length : Int) ≤ 8 by omega), decide_eq_false (show ¬ ((cn (hasB ab.1 ab.2)).2.length : Int) ≤ 8 by omega)]
        exact Ev.now _
    · rw [dec_false (fun h : Small _ => h1 h.1)]
      simp only [if_neg (show ¬ ((cn (hasB ab.1 ab.2)).1.length : Int) ≤ 8 by omega)]
      exact Ev.now _
end Go.Proofs.Ytaebonckcbhofaa.P

-- impl.SumOf: the sum of two small sets.
namespace Go.Proofs.Ytaebonckcbhofaa.P
open Go.RowKit Go.Proofs.YtaebonckcbhofaaW.PrintWords Go.Proofs.YtaebonckcbhofaaW.PrintLast Go.Proofs.YtaebonckcbhofaaW.PrintMore
set_option linter.unusedVariables false
set_option linter.unusedSimpArgs false

noncomputable def impl_SumOf.f (s t : ByteArray) : Option (ByteArray × Bool) := if s.size ≤ 70368744177664 ∧ t.size ≤ 70368744177664 then some (smr (chrs s) (chrs t)) else none
theorem sumOf_f (s t : ByteArray) (hs : s.size ≤ 70368744177664) (ht : t.size ≤ 70368744177664) : impl_SumOf.f s t = some (smr (chrs s) (chrs t)) := by unfold impl_SumOf.f; rw [if_pos ⟨hs, ht⟩]

set_option maxHeartbeats 8000000 in
set_option maxRecDepth 100000 in
theorem sumOf_q_calls (b1 b2 : Nat)
    (x y x2 y2 : List Bool) (hy : y ≠ []) (hy2 : y2 ≠ []) (hl : x.length ≤ 60 ∧ y.length ≤ 60) (hl2 : x2.length ≤ 60 ∧ y2.length ≤ 60) (A0 : Option Addr) (c0 : Nat) (A1 : Option Addr) (c1 : Nat) (A2 : Option Addr) (c2 : Nat) (A3 : Option Addr) (c3 n : Nat) (hn : n ≤ 100000) (W : World)
    (hx0 : W.cell? ⟨b1, 0, none⟩ = some (.slice A0 x.length c0)) (hx1 : W.cell? ⟨b1, 1, none⟩ = some (.slice A1 y.length c1)) (hx2 : W.cell? ⟨b2, 0, none⟩ = some (.slice A2 x2.length c2)) (hx3 : W.cell? ⟨b2, 1, none⟩ = some (.slice A3 y2.length c3))
    (hC0 : Kd.C Kd.bool W A0 x.length x) (hc0 : x.length ≤ c0) (hC1 : Kd.C Kd.bool W A1 y.length y) (hc1 : y.length ≤ c1) (hC2 : Kd.C Kd.bool W A2 x2.length x2) (hc2 : x2.length ≤ c2) (hC3 : Kd.C Kd.bool W A3 y2.length y2) (hc3 : y2.length ≤ c3) :
    Calls Try.prog 38 #[.int .i64 n, .pointer (some ⟨b1, 0, none⟩), .pointer (some ⟨b2, 0, none⟩)] W fun e w' => e = .returned (.bool (sumq (hasB x y) (hasB x2 y2) n)) ∧ Below W.heap.size W w' := by
  have hu := Try.underlying42
  obtain ⟨k, hk⟩ := (sums_f x y x2 y2 hy hy2 hl.1 hl.2 hl2.1 hl2.2 n hn).rounds
  have HC1 := fun (W' : World) (hw : Below W.heap.size W W') => Aside0.mk (impl_sums.calls k A0 c0 x A1 c1 y A2 c2 x2 A3 c3 y2 (n : Int) _ W' (Kd.C_below hC0 hw) hc0 (Kd.C_below hC1 hw) hc1 (Kd.C_below hC2 hw) hc2 (Kd.C_below hC3 hw) hc3 hk)
  generalize sumq (hasB x y) (hasB x2 y2) n = p at *
  clear hC0 hC1 hC2 hC3 hc0 hc1 hc2 hc3 hl hl2 hy hy2 hn hk
  go_enter Try.func38, Try.ntmps38
  go_wp2_with (go_at_call 39; refine (HC1 _ (by repeat (first | exact Below.refl _ _ | apply below_drew1))).out.mono ?_; rintro e w1 ⟨rfl, hd⟩)
  go_ret
  exact ⟨rfl, hd⟩

set_option maxHeartbeats 8000000 in
set_option maxRecDepth 100000 in
theorem impl_SumOf.calls (s t : ByteArray) (r1 : ByteArray) (r2 : Bool) (w : World) (h : impl_SumOf.f s t = some (r1, r2)) :
    Calls Try.prog 14 #[.string s, .string t] w fun e w' => e = .returned (.tuple #[.string r1, .bool r2]) ∧ Below w.heap.size w w' := by
  unfold impl_SumOf.f at h
  split at h
  rotate_left
  · cases h
  rename_i hst
  obtain ⟨hs, ht⟩ := hst
  simp only [Option.some.injEq] at h
  have hR : r1 = (smr (chrs s) (chrs t)).1 ∧ r2 = (smr (chrs s) (chrs t)).2 := by rw [h]; exact ⟨rfl, rfl⟩
  obtain ⟨rfl, rfl⟩ := hR
  clear h
  obtain ⟨x, y, hev, hxy⟩ := small_f s hs
  obtain ⟨x2, y2, hev2, hxy2⟩ := small_f t ht
  obtain ⟨k, hk⟩ := hev.rounds
  obtain ⟨k2, hk2⟩ := hev2.rounds
  have hu := Try.underlying42
  clear hev hev2
  have key : ∀ (b b2 : Bool), smallB (chrs s) = b → smallB (chrs t) = b2 → Calls Try.prog 14 #[.string s, .string t] w fun e w' => e = .returned (.tuple #[.string (smr (chrs s) (chrs t)).1, .bool (smr (chrs s) (chrs t)).2]) ∧ Below w.heap.size w w' := by
    intro b b2 hb hb2
    rw [hb] at hk
    rw [hb2] at hk2
    have HK := fun w => Aside0.mk (impl_small.calls k s x y b w hk)
    have HK2 := fun w => Aside0.mk (impl_small.calls k2 t x2 y2 b2 w hk2)
    by_cases hall : b = true ∧ b2 = true
    · obtain ⟨rfl, rfl⟩ := hall
      obtain ⟨a, c, hp, hset, hm1, hm2, hpos, hper⟩ := smallB_ok hb
      obtain ⟨a2, c2, hp2, hset2, hm3, hm4, hpos2, hper2⟩ := smallB_ok hb2
      obtain ⟨rfl, rfl⟩ := hxy (by rw [hp]; rfl)
      obtain ⟨rfl, rfl⟩ := hxy2 (by rw [hp2]; rfl)
      have e : smr (chrs s) (chrs t) = txt (cn (sumq (setf (chrs s)) (setf (chrs t)))) := by
        unfold smr; rw [hb, hb2]; rfl
      rw [e]
      have hh1 : hasB (cn (setf (chrs s))).1 (cn (setf (chrs s))).2 = setf (chrs s) := by rw [hset]; exact cn_has (parse_per hp).1 (parse_per hp).2
      have hh2 : hasB (cn (setf (chrs t))).1 (cn (setf (chrs t))).2 = setf (chrs t) := by rw [hset2]; exact cn_has (parse_per hp2).1 (parse_per hp2).2
      generalize (cn (setf (chrs s))).1 = x at *
      generalize (cn (setf (chrs s))).2 = y at *
      generalize (cn (setf (chrs t))).1 = x2 at *
      generalize (cn (setf (chrs t))).2 = y2 at *
      obtain ⟨k3, hk3⟩ := (lcm_f y.length y2.length (by omega) (by omega) hpos).rounds
      have hL := lcm_le8 hpos hpos2 hm2 hm4
      have hL0 : 0 < Nat.lcm y.length y2.length := Nat.lcm_pos hpos hpos2
      have hper3 : Per (sumq (setf (chrs s)) (setf (chrs t))) 200 (Nat.lcm y.length y2.length) := (sumq_per (hper.dvd (Nat.dvd_lcm_left _ _)) (hper2.dvd (Nat.dvd_lcm_right _ _))).mono (by omega)
      rw [← hh1, ← hh2] at hper3 ⊢
      have eg : ∀ args w, (callFunc 38 args).run Try.prog w = .ok (.enter 38 args) w := enters_of Try.func38 (by kernel_rfl) rfl
      have HM := fun (lb : Array Value) (w : World) => Aside0.mk (made_calls (sumq (hasB x y) (hasB x2 y2)) 200 (Nat.lcm y.length y2.length) hL0 hper3 (by omega) 38 lb w eg)
      have HQ := Aside0.mk (show ((x.length ≤ 8 ∧ y.length ≤ 8) ∧ y ≠ []) ∧ ((x2.length ≤ 8 ∧ y2.length ≤ 8) ∧ y2 ≠ []) from ⟨⟨⟨hm1, hm2⟩, List.length_pos_iff.1 hpos⟩, ⟨⟨hm3, hm4⟩, List.length_pos_iff.1 hpos2⟩⟩)
      have HLL := Aside0.mk hL
      have HK3 := fun w => Aside0.mk (impl_lcm.calls k3 (y.length : Int) (y2.length : Int) _ w hk3)
      generalize Nat.lcm y.length y2.length = L at *
      clear hb hb2 hp hp2 hxy hxy2 hk hk2 hper hper2 hper3 eg hpos hpos2 hL hL0 e hh1 hh2 hset hset2 hm1 hm2 hm3 hm4 hk3
      go_enter Try.func14, Try.ntmps14
      go_wp2_with (first
        | (go_at_call 30; with_reducible refine (HK _).out.mono ?_; rintro e w1 ⟨v0_, v1_, rfl, hR0, hR1, hb1⟩; obtain ⟨A0, n0, rfl, hn0, hC0⟩ := Kd.R_reads hR0; obtain ⟨A1, n1, rfl, hn1, hC1⟩ := Kd.R_reads hR1; have C0 := Aside0.mk hC0; have C1 := Aside0.mk hC1; have N0 := Aside0.mk hn0; have N1 := Aside0.mk hn1; clear hR0 hR1 hC0 hC1 hn0 hn1; have HB := Aside0.mk hb1; clear hb1)
        | (go_at_call 30; with_reducible refine (HK2 _).out.mono ?_; rintro e w2 ⟨v2_, v3_, rfl, hR0, hR1, hb2⟩; obtain ⟨A2, n2, rfl, hn2, hC2⟩ := Kd.R_reads hR0; obtain ⟨A3, n3, rfl, hn3, hC3⟩ := Kd.R_reads hR1; have C2 := Aside0.mk hC2; have C3 := Aside0.mk hC3; have N2 := Aside0.mk hn2; have N3 := Aside0.mk hn3; clear hR0 hR1 hC2 hC3 hn2 hn3; have HB12 := Aside0.mk (below_step (below_alloc (Below.refl w1.heap.size w1) _) hb2); have e0 := (hb2.cell (p := ⟨w1.heap.size, 0, none⟩) (by simp)).trans (by simp : (w1.alloc (.cells #[.slice A0 x.length n0, .slice A1 y.length n1] _)).cell? ⟨w1.heap.size, 0, none⟩ = some (.slice A0 x.length n0)); have e1 := (hb2.cell (p := ⟨w1.heap.size, 1, none⟩) (by simp)).trans (by simp : (w1.alloc (.cells #[.slice A0 x.length n0, .slice A1 y.length n1] _)).cell? ⟨w1.heap.size, 1, none⟩ = some (.slice A1 y.length n1)); have E0 := Aside0.mk e0; have E1 := Aside0.mk e1; have l1 : w1.heap.size < w2.heap.size := Nat.lt_of_lt_of_le (by simp) hb2.size; have L1 := Aside0.mk l1; clear hb2)
        | (go_at_call 37; refine (HK3 _).out.mono ?_; rintro e w3 ⟨rfl, hd3⟩; have hb3 := drawn0_below hd3; have HB23 := Aside0.mk (below_step (below_alloc (Below.refl w2.heap.size w2) _) hb3); have G3 := Aside0.mk ((hb3.cell (p := ⟨w2.heap.size, 0, none⟩) (by simp)).trans (by simp : (w2.alloc (.cells #[.slice A2 x2.length n2, .slice A3 y2.length n3] _)).cell? ⟨w2.heap.size, 0, none⟩ = some (.slice A2 x2.length n2))); have G4 := Aside0.mk ((hb3.cell (p := ⟨w2.heap.size, 1, none⟩) (by simp)).trans (by simp : (w2.alloc (.cells #[.slice A2 x2.length n2, .slice A3 y2.length n3] _)).cell? ⟨w2.heap.size, 1, none⟩ = some (.slice A3 y2.length n3))); have L2 := Aside0.mk (Nat.lt_of_lt_of_le (by simp) hb3.size : w2.heap.size < w3.heap.size); clear hd3 hb3)
        | (go_at_call 31; refine ((HM _ _).out ?hc).mono ?_; (case hc =>
            intro W i hW hi
            have hBW := below_step HB23.out hW
            have hBW1 := below_step HB12.out hBW
            have hq := HQ.out
            have hl1 := L1.out
            have hl2 := L2.out
            have hs3 := hW.size
            have hL := HLL.out
            exact sumOf_q_calls w1.heap.size w2.heap.size x y x2 y2 hq.1.2 hq.2.2 (by omega) (by omega) A0 n0 A1 n1 A2 n2 A3 n3 i (by omega) W
              ((hBW.cell (p := ⟨w1.heap.size, 0, none⟩) hl1).trans E0.out)
              ((hBW.cell (p := ⟨w1.heap.size, 1, none⟩) hl1).trans E1.out)
              ((hW.cell (p := ⟨w2.heap.size, 0, none⟩) hl2).trans G3.out)
              ((hW.cell (p := ⟨w2.heap.size, 1, none⟩) hl2).trans G4.out)
              (Kd.C_below C0.out hBW1) N0.out (Kd.C_below C1.out hBW1) N1.out (Kd.C_below C2.out hBW) N2.out (Kd.C_below C3.out hBW) N3.out); rintro e w4 ⟨rfl, hb4⟩))
      go_ret2
      exact ⟨rfl, below_step (below_step HB.out (below_step HB12.out HB23.out)) hb4⟩
    · have e : smr (chrs s) (chrs t) = (⟨#[]⟩, false) := by
        unfold smr; rw [hb, hb2, if_neg (by simpa using hall)]
      rw [e]
      have hcase : b = false ∨ (b = true ∧ b2 = false) := by
        cases b with
        | false => exact .inl rfl
        | true =>
          cases b2 with
          | false => exact .inr ⟨rfl, rfl⟩
          | true => exact absurd ⟨rfl, rfl⟩ hall
      clear hb hb2 hk hk2 hxy hxy2 hall e
      rcases hcase with rfl | ⟨rfl, rfl⟩
      all_goals
        go_enter Try.func14, Try.ntmps14
        go_wp2_with (first
          | (go_at_call 30; with_reducible refine (HK _).out.mono ?_; rintro e w1 ⟨v0_, v1_, rfl, hR0, hR1, hb1⟩; obtain ⟨A0, n0, rfl, hn0, hC0⟩ := Kd.R_reads hR0; obtain ⟨A1, n1, rfl, hn1, hC1⟩ := Kd.R_reads hR1; clear hR0 hR1 hC0 hC1 hn0 hn1; have HB := Aside0.mk hb1; clear hb1)
          | (go_at_call 30; with_reducible refine (HK2 _).out.mono ?_; rintro e w2 ⟨v2_, v3_, rfl, hR0, hR1, hb2⟩; obtain ⟨A2, n2, rfl, hn2, hC2⟩ := Kd.R_reads hR0; obtain ⟨A3, n3, rfl, hn3, hC3⟩ := Kd.R_reads hR1; clear hR0 hR1 hC2 hC3 hn2 hn3; have HB2 := Aside0.mk (below_step HB.out (below_step (below_alloc (Below.refl w1.heap.size w1) _) hb2)); clear hb2))
        go_ret2
        refine ⟨rfl, ?_⟩
        repeat (first | exact HB2.out | apply below_alloc | (refine below_set ?_ HB2.out.size))
  exact key _ _ rfl rfl
end Go.Proofs.Ytaebonckcbhofaa.P

namespace Go.Proofs.Ytaebonckcbhofaa.P
open Go.RowKit Go.Proofs.YtaebonckcbhofaaW.PrintWords Go.Proofs.YtaebonckcbhofaaW.PrintLast Go.Proofs.YtaebonckcbhofaaW.PrintMore
attribute [local go_sem] max2_int min2_int max_two min_two max_three min_three max_four min_four   -- for this text's walks alone
set_option linter.unusedVariables false
set_option linter.unusedSimpArgs false

/-! ### laws_FnRestUndo: function 6 -/
noncomputable def laws_FnRestUndo.j0:Nat → ByteArray → ByteArray → ByteArray → Bool → ByteArray → Bool → Bool → Option (Bool)
 | 0,_,_,_,_,_,_,_=>none
 | k + 1,x3,x4,x5,x6,x7,x8,x44=>if x44 = true then (if x5.toList = x7.toList then (some (x6 == x8)) else (some false)) else ((impl_RestSome.f x5 x4).bind fun bt495=>((impl_RestAll.f x5 x4).bind fun bt497=>(if bt495.2 = true then ((impl_SetSame.f k x4 (⟨#[40,48,41]⟩:ByteArray)).bind fun t499=>(if t499 = true then (if bt497.2 = true then ((impl_SetBelow.f k x3 bt497.1).bind fun t500=>(some t500)) else (some true)) else ((impl_SetBelow.f k x3 bt495.1).bind fun t501=>(if t501 = true then (if bt497.2 = true then ((impl_SetBelow.f k x3 bt497.1).bind fun t502=>(some t502)) else (some true)) else (some false))))) else (if bt497.2 = true then ((impl_SetBelow.f k x3 bt497.1).bind fun t503=>(some t503)) else (some true)))))
noncomputable def laws_FnRestUndo.f (k:Nat) (l0:List Int):Option (Bool):=if (l0.length:Int) > 1048576 then (some true) else ((spec_DrawSumOf.f k l0).bind fun bt489=>((impl_SumOf.f bt489.1 bt489.2).bind fun bt491=>((spec_SumOf.f k bt489.1 bt489.2).bind fun bt493=>(if bt491.1.toList = bt493.1.toList then (if (bt491.2 != bt493.2) = true then (laws_FnRestUndo.j0 k bt489.1 bt489.2 bt491.1 bt491.2 bt493.1 bt493.2 true) else (laws_FnRestUndo.j0 k bt489.1 bt489.2 bt491.1 bt491.2 bt493.1 bt493.2 (!bt491.2))) else (laws_FnRestUndo.j0 k bt489.1 bt489.2 bt491.1 bt491.2 bt493.1 bt493.2 true)))))
theorem laws_FnRestUndo.mono_l:∀ k,(∀ y0 y1 y2 y3 y4 y5 y6,LeO (laws_FnRestUndo.j0 k y0 y1 y2 y3 y4 y5 y6) (laws_FnRestUndo.j0 (k + 1) y0 y1 y2 y3 y4 y5 y6))
 | 0=>fun _ _ _ _ _ _ _ r h=>by simp [laws_FnRestUndo.j0] at h
 | k + 1=>by
  have ih0:=laws_FnRestUndo.mono_l k
  ·intro y0 y1 y2 y3 y4 y5 y6
   unfold laws_FnRestUndo.j0
   repeat' first
   | (with_reducible exact ih0 _ _ _ _ _ _ _)
   | (with_reducible exact impl_SetBelow.mono _ _ _)
   | (with_reducible exact impl_SetSame.mono _ _ _)
   | (with_reducible exact spec_DrawSumOf.mono _ _)
   | (with_reducible exact spec_SumOf.mono _ _ _)
   | (with_reducible exact LeO.refl _)
   | (with_reducible exact LeO.none _)
   | (with_reducible refine LeO.ite ?_ ?_)
   | (with_reducible refine LeO.bind ?_ (fun _=>?_))
   | exact ih0 _ _ _ _ _ _ _
   | exact impl_SetBelow.mono _ _ _
   | exact impl_SetSame.mono _ _ _
   | exact spec_DrawSumOf.mono _ _
   | exact spec_SumOf.mono _ _ _
   | exact LeO.none _
   | refine LeO.ite ?_ ?_
   | refine LeO.bind ?_ (fun _=>?_)
theorem laws_FnRestUndo.mono:∀ a0 k,LeO (laws_FnRestUndo.f k a0) (laws_FnRestUndo.f (k + 1) a0):=by
 intro a0 k
 have ih0:=laws_FnRestUndo.mono_l k
 unfold laws_FnRestUndo.f
 repeat' first
   | (with_reducible exact ih0 _ _ _ _ _ _ _)
   | (with_reducible exact impl_SetBelow.mono _ _ _)
   | (with_reducible exact impl_SetSame.mono _ _ _)
   | (with_reducible exact spec_DrawSumOf.mono _ _)
   | (with_reducible exact spec_SumOf.mono _ _ _)
   | (with_reducible exact LeO.refl _)
   | (with_reducible exact LeO.none _)
   | (with_reducible refine LeO.ite ?_ ?_)
   | (with_reducible refine LeO.bind ?_ (fun _=>?_))
   | exact ih0 _ _ _ _ _ _ _
   | exact impl_SetBelow.mono _ _ _
   | exact impl_SetSame.mono _ _ _
   | exact spec_DrawSumOf.mono _ _
   | exact spec_SumOf.mono _ _ _
   | exact LeO.none _
   | refine LeO.ite ?_ ?_
   | refine LeO.bind ?_ (fun _=>?_)
set_option maxHeartbeats 8000000 in
set_option maxRecDepth 100000 in
theorem laws_FnRestUndo.calls (k:Nat) (A0:Option Addr) (c0:Nat) (l0:List Int) (r:Bool) (w:World) (hr0:Kd.C (Kd.int .u8) w A0 l0.length l0) (hc0:l0.length≤c0) (h:laws_FnRestUndo.f k l0 = some r) :
  Calls Try.prog 6 #[.slice A0 l0.length c0] w fun e w'=>e = .returned (.bool r)∧Below w.heap.size w w':=by
 have HR0:=Aside0.mk hr0
 have HC0:=Aside0.mk hc0
 clear hr0 hc0
 have HB:=Aside0.mk (Below.refl w.heap.size w)
 have H:(if (l0.length:Int) > 1048576 then (some true) else ((spec_DrawSumOf.f k l0).bind fun bt489=>((impl_SumOf.f bt489.1 bt489.2).bind fun bt491=>((spec_SumOf.f k bt489.1 bt489.2).bind fun bt493=>(if bt491.1.toList = bt493.1.toList then (if (bt491.2 != bt493.2) = true then (laws_FnRestUndo.j0 k bt489.1 bt489.2 bt491.1 bt491.2 bt493.1 bt493.2 true) else (laws_FnRestUndo.j0 k bt489.1 bt489.2 bt491.1 bt491.2 bt493.1 bt493.2 (!bt491.2))) else (laws_FnRestUndo.j0 k bt489.1 bt489.2 bt491.1 bt491.2 bt493.1 bt493.2 true)))))) = some r:=h
 clear h
 by_cases c2:(l0.length:Int) > 1048576
 ·rw [if_pos c2] at H
  have c2b0:decide (1048576 < (l0.length:Int)) = true:=decide_eq_true c2
  have c2b1:decide (1048576 < l0.length) = true:=decide_eq_true (by omega)
  clear c2
  obtain rfl:=Option.some.inj H
  go_enter Try.func6,Try.ntmps6
  go_wp2
  go_ret
  exact ⟨by first|rfl|(simp [errW_none,errW_some] <;> rfl)|(simp [*,errW_none,errW_some] <;> rfl)|(simp [errW_none,errW_some];exact ⟨rfl,rfl⟩),by repeat (first|(with_reducible first|exact HB.out|apply below_alloc|apply pw_below_drewN|apply below_drew1)|exact HB.out)⟩
 ·rw [if_neg c2] at H
  have c2b0:decide (1048576 < (l0.length:Int)) = false:=decide_eq_false c2
  have c2b1:decide (1048576 < l0.length) = false:=decide_eq_false (by omega)
  clear c2
  replace H:=Option.bind_eq_some_iff.mp H
  obtain ⟨⟨t489,t490⟩,A30,H⟩:=H
  replace H:((impl_SumOf.f t489 t490).bind fun bt491=>((spec_SumOf.f k t489 t490).bind fun bt493=>(if bt491.1.toList = bt493.1.toList then (if (bt491.2 != bt493.2) = true then (laws_FnRestUndo.j0 k t489 t490 bt491.1 bt491.2 bt493.1 bt493.2 true) else (laws_FnRestUndo.j0 k t489 t490 bt491.1 bt491.2 bt493.1 bt493.2 (!bt491.2))) else (laws_FnRestUndo.j0 k t489 t490 bt491.1 bt491.2 bt493.1 bt493.2 true)))) = some r:=H
  have A3:=Aside0.mk A30
  clear A30
  replace H:=Option.bind_eq_some_iff.mp H
  obtain ⟨⟨t491,t492⟩,A40,H⟩:=H
  replace H:((spec_SumOf.f k t489 t490).bind fun bt493=>(if t491.toList = bt493.1.toList then (if (t492 != bt493.2) = true then (laws_FnRestUndo.j0 k t489 t490 t491 t492 bt493.1 bt493.2 true) else (laws_FnRestUndo.j0 k t489 t490 t491 t492 bt493.1 bt493.2 (!t492))) else (laws_FnRestUndo.j0 k t489 t490 t491 t492 bt493.1 bt493.2 true))) = some r:=H
  have A4:=Aside0.mk A40
  clear A40
  replace H:=Option.bind_eq_some_iff.mp H
  obtain ⟨⟨t493,t494⟩,A50,H⟩:=H
  replace H:(if t491.toList = t493.toList then (if (t492 != t494) = true then (laws_FnRestUndo.j0 k t489 t490 t491 t492 t493 t494 true) else (laws_FnRestUndo.j0 k t489 t490 t491 t492 t493 t494 (!t492))) else (laws_FnRestUndo.j0 k t489 t490 t491 t492 t493 t494 true)) = some r:=H
  have A5:=Aside0.mk A50
  clear A50
  have HC6:=Aside0.mk H
  clear H
  go_enter Try.func6,Try.ntmps6
  go_upto_region 6 with (first|((with_reducible refine gate_callee (f:=13) rfl ?_);refine goesL_ (some 18) rfl rfl Try.func13 (by kernel_rfl) rfl #[.slice A0 l0.length c0] rfl (by (try simp only [List.map_toArray,List.map_cons,List.map_nil]);first|done|rfl|(simp only [List.length_drop,List.length_take];rfl)) ?_;(with_reducible refine (spec_DrawSumOf.calls k _ _ l0 t489 t490 _ ?side1 ?side2 A3.out).mono ?_);(case side1=>repeat (first|exact HR0.out|(with_reducible refine Kd.C_alloc ?_ _)|(with_reducible refine Kd.C_drewN ?_ _)|(with_reducible refine Kd.C_drew ?_)));(case side2=>exact HC0.out);rintro e w7 ⟨rfl,hb⟩;refine ⟨_,rfl,?_⟩;have n0_:=Aside0.mk (below_step (by repeat (first|(with_reducible first|exact HB.out|apply below_alloc|apply pw_below_drewN|apply below_drew1)|exact HB.out)) hb);clear HB;have HB:=n0_;clear n0_;(try clear hb);(try clear hb2);(try clear hk);(try clear hi))|((with_reducible refine gate_callee (f:=14) rfl ?_);refine goesL_ (some 24) rfl rfl Try.func14 (by kernel_rfl) rfl #[.string t489,.string t490] rfl (by (try simp only [List.map_toArray,List.map_cons,List.map_nil]);first|done|rfl|(simp only [List.length_drop,List.length_take];rfl)) ?_;(with_reducible refine (impl_SumOf.calls t489 t490 t491 t492 _ A4.out).mono ?_);rintro e w8 ⟨rfl,hb⟩;refine ⟨_,rfl,?_⟩;have n0_:=Aside0.mk (below_step (by repeat (first|(with_reducible first|exact HB.out|apply below_alloc|apply pw_below_drewN|apply below_drew1)|exact HB.out)) hb);clear HB;have HB:=n0_;clear n0_;(try clear hb);(try clear hb2);(try clear hk);(try clear hi))|((with_reducible refine gate_callee (f:=15) rfl ?_);refine goesL_ (some 30) rfl rfl Try.func15 (by kernel_rfl) rfl #[.string t489,.string t490] rfl (by (try simp only [List.map_toArray,List.map_cons,List.map_nil]);first|done|rfl|(simp only [List.length_drop,List.length_take];rfl)) ?_;(with_reducible refine (spec_SumOf.calls k t489 t490 t493 t494 _ A5.out).mono ?_);rintro e w9 ⟨rfl,hb⟩;refine ⟨_,rfl,?_⟩;have n0_:=Aside0.mk (below_step (by repeat (first|(with_reducible first|exact HB.out|apply below_alloc|apply pw_below_drewN|apply below_drew1)|exact HB.out)) hb);clear HB;have HB:=n0_;clear n0_;(try clear hb);(try clear hb2);(try clear hk);(try clear hi)))
  (try simp only [Act.put,List.setIfInBounds_toArray,List.set_cons_zero,List.set_cons_succ])
  go_cut [44] (fun v44 wc=>∃ (kq:Nat) (x44_5:Bool),v44 = .bool x44_5∧Aside0 (laws_FnRestUndo.j0 kq t489 t490 t491 t492 t493 t494 x44_5 = some r)∧Aside0 (kq≤k)∧Aside0 (Below w.heap.size w wc))
  case first =>
   have H:=HC6.out
   clear HC6
   by_cases c10:t491.toList = t493.toList
   ·rw [if_pos c10] at H
    have c10b0:(t491.toList == t493.toList) = true:=beq_iff_eq.mpr c10
    have c10b1:(t491.toList != t493.toList) = false:=bne_eq_false_iff_eq.mpr c10
    clear c10
    (first|rw [c10b0]|(simp only [i64_w,i32_w];rw [c10b0])|skip)
    by_cases c11:(t492 != t494) = true
    ·rw [if_pos c11] at H
     have c11b0:(t492 != t494) = true:=c11
     (try (have c11b1:decide (t492 = t494) = false:=by simpa using c11))
     (try (have c11b2:(t492 == t494) = false:=by simpa using c11))
     (try (have c11b3:¬ (t492 = t494):=by simpa using c11))
     clear c11
     have H':=Aside0.mk H
     clear H
     go_wp2
     go_meet
     case rel=>exact ⟨_,(true),(by first|rfl|(simp;done)|(simp [*];done)|(simp [Int.tmod_eq_emod_of_nonneg];done)),H',⟨by first|omega|exact Nat.le_refl _⟩,⟨by repeat (first|(with_reducible first|exact HB.out|apply below_alloc|apply pw_below_drewN|apply below_drew1)|exact HB.out)⟩⟩
    ·rw [if_neg c11] at H
     have c11b0:(t492 != t494) = false:=by simpa using c11
     (try (have c11b1:decide (t492 = t494) = true:=by simpa using c11))
     (try (have c11b2:(t492 == t494) = true:=by simpa using c11))
     clear c11
     have H':=Aside0.mk H
     clear H
     go_wp2
     go_meet
     case rel=>exact ⟨_,(!t492),(by first|rfl|(simp;done)|(simp [*];done)|(simp [Int.tmod_eq_emod_of_nonneg];done)),H',⟨by first|omega|exact Nat.le_refl _⟩,⟨by repeat (first|(with_reducible first|exact HB.out|apply below_alloc|apply pw_below_drewN|apply below_drew1)|exact HB.out)⟩⟩
   ·rw [if_neg c10] at H
    have c10b0:(t491.toList == t493.toList) = false:=beq_eq_false_iff_ne.mpr c10
    have c10b1:(t491.toList != t493.toList) = true:=bne_iff_ne.mpr c10
    (first|rw [c10b0]|(simp only [i64_w,i32_w];rw [c10b0])|skip)
    have H':=Aside0.mk H
    clear H
    go_wp2
    go_meet
    case rel=>exact ⟨_,(true),(by first|rfl|(simp;done)|(simp [*];done)|(simp [Int.tmod_eq_emod_of_nonneg];done)),H',⟨by first|omega|exact Nat.le_refl _⟩,⟨by repeat (first|(with_reducible first|exact HB.out|apply below_alloc|apply pw_below_drewN|apply below_drew1)|exact HB.out)⟩⟩
  case rest =>
   clear HC6
   try clear c1
   try clear c2
   try clear c2b0
   try clear c2b1
   try clear p2
   try clear c6
   try clear c10
   try clear c10b0
   try clear c10b1
   try clear c11
   try clear c11b0
   try clear c11b1
   try clear c11b2
   obtain ⟨kq,x44_5,rfl,HA,HJ5,HB⟩:=hcut
   cases kq with
   | zero=>exact absurd HA.out (by simp [laws_FnRestUndo.j0])
   | succ kj5 =>
    have H:=HA.out
    clear HA
    simp only [laws_FnRestUndo.j0] at H
    by_cases c12:x44_5 = true
    ·subst c12
     have H1:(if t491.toList = t493.toList then (some (t492 == t494)) else (some false)) = some r:=by rw [if_pos rfl] at H;exact H
     clear H
     have H:=H1
     clear H1
     by_cases c13:t491.toList = t493.toList
     ·rw [if_pos c13] at H
      have c13b0:(t491.toList == t493.toList) = true:=beq_iff_eq.mpr c13
      have c13b1:(t491.toList != t493.toList) = false:=bne_eq_false_iff_eq.mpr c13
      clear c13
      obtain rfl:=Option.some.inj H
      go_wp2
      go_ret
      exact ⟨by first|rfl|(simp [errW_none,errW_some] <;> rfl)|(simp [*,errW_none,errW_some] <;> rfl)|(simp [errW_none,errW_some];exact ⟨rfl,rfl⟩),by repeat (first|(with_reducible first|exact HB.out|apply below_alloc|apply pw_below_drewN|apply below_drew1)|exact HB.out)⟩
     ·rw [if_neg c13] at H
      have c13b0:(t491.toList == t493.toList) = false:=beq_eq_false_iff_ne.mpr c13
      have c13b1:(t491.toList != t493.toList) = true:=bne_iff_ne.mpr c13
      obtain rfl:=Option.some.inj H
      go_wp2
      go_ret
      exact ⟨by first|rfl|(simp [errW_none,errW_some] <;> rfl)|(simp [*,errW_none,errW_some] <;> rfl)|(simp [errW_none,errW_some];exact ⟨rfl,rfl⟩),by repeat (first|(with_reducible first|exact HB.out|apply below_alloc|apply pw_below_drewN|apply below_drew1)|exact HB.out)⟩
    ·replace c12:=Bool.eq_false_iff.mpr c12
     subst c12
     have H1:((impl_RestSome.f t491 t490).bind fun bt495=>((impl_RestAll.f t491 t490).bind fun bt497=>(if bt495.2 = true then ((impl_SetSame.f kj5 t490 (⟨#[40,48,41]⟩:ByteArray)).bind fun t499=>(if t499 = true then (if bt497.2 = true then ((impl_SetBelow.f kj5 t489 bt497.1).bind fun t500=>(some t500)) else (some true)) else ((impl_SetBelow.f kj5 t489 bt495.1).bind fun t501=>(if t501 = true then (if bt497.2 = true then ((impl_SetBelow.f kj5 t489 bt497.1).bind fun t502=>(some t502)) else (some true)) else (some false))))) else (if bt497.2 = true then ((impl_SetBelow.f kj5 t489 bt497.1).bind fun t503=>(some t503)) else (some true))))) = some r:=by rw [if_neg (show ¬ (false = true) by decide)] at H;exact H
     clear H
     have H:=H1
     clear H1
     replace H:=Option.bind_eq_some_iff.mp H
     obtain ⟨⟨t495,t496⟩,A140,H⟩:=H
     replace H:((impl_RestAll.f t491 t490).bind fun bt497=>(if t496 = true then ((impl_SetSame.f kj5 t490 (⟨#[40,48,41]⟩:ByteArray)).bind fun t499=>(if t499 = true then (if bt497.2 = true then ((impl_SetBelow.f kj5 t489 bt497.1).bind fun t500=>(some t500)) else (some true)) else ((impl_SetBelow.f kj5 t489 t495).bind fun t501=>(if t501 = true then (if bt497.2 = true then ((impl_SetBelow.f kj5 t489 bt497.1).bind fun t502=>(some t502)) else (some true)) else (some false))))) else (if bt497.2 = true then ((impl_SetBelow.f kj5 t489 bt497.1).bind fun t503=>(some t503)) else (some true)))) = some r:=H
     have A14:=Aside0.mk A140
     clear A140
     replace H:=Option.bind_eq_some_iff.mp H
     obtain ⟨⟨t497,t498⟩,A150,H⟩:=H
     replace H:(if t496 = true then ((impl_SetSame.f kj5 t490 (⟨#[40,48,41]⟩:ByteArray)).bind fun t499=>(if t499 = true then (if t498 = true then ((impl_SetBelow.f kj5 t489 t497).bind fun t500=>(some t500)) else (some true)) else ((impl_SetBelow.f kj5 t489 t495).bind fun t501=>(if t501 = true then (if t498 = true then ((impl_SetBelow.f kj5 t489 t497).bind fun t502=>(some t502)) else (some true)) else (some false))))) else (if t498 = true then ((impl_SetBelow.f kj5 t489 t497).bind fun t503=>(some t503)) else (some true))) = some r:=H
     have A15:=Aside0.mk A150
     clear A150
     by_cases c16:t496 = true
     ·subst c16
      have H1:((impl_SetSame.f kj5 t490 (⟨#[40,48,41]⟩:ByteArray)).bind fun t499=>(if t499 = true then (if t498 = true then ((impl_SetBelow.f kj5 t489 t497).bind fun t500=>(some t500)) else (some true)) else ((impl_SetBelow.f kj5 t489 t495).bind fun t501=>(if t501 = true then (if t498 = true then ((impl_SetBelow.f kj5 t489 t497).bind fun t502=>(some t502)) else (some true)) else (some false))))) = some r:=by rw [if_pos rfl] at H;exact H
      clear H
      have H:=H1
      clear H1
      replace H:=Option.bind_eq_some_iff.mp H
      obtain ⟨t499,A170,H⟩:=H
      replace H:(if t499 = true then (if t498 = true then ((impl_SetBelow.f kj5 t489 t497).bind fun t500=>(some t500)) else (some true)) else ((impl_SetBelow.f kj5 t489 t495).bind fun t501=>(if t501 = true then (if t498 = true then ((impl_SetBelow.f kj5 t489 t497).bind fun t502=>(some t502)) else (some true)) else (some false)))) = some r:=H
      have A17:=Aside0.mk A170
      clear A170
      by_cases c18:t499 = true
      ·subst c18
       have H1:(if t498 = true then ((impl_SetBelow.f kj5 t489 t497).bind fun t500=>(some t500)) else (some true)) = some r:=by rw [if_pos rfl] at H;exact H
       clear H
       have H:=H1
       clear H1
       by_cases c19:t498 = true
       ·subst c19
        have H1:((impl_SetBelow.f kj5 t489 t497).bind fun t500=>(some t500)) = some r:=by rw [if_pos rfl] at H;exact H
        clear H
        have H:=H1
        clear H1
        replace H:=Option.bind_eq_some_iff.mp H
        obtain ⟨t500,A200,H⟩:=H
        replace H:(some t500) = some r:=H
        have A20:=Aside0.mk A200
        clear A200
        obtain rfl:=Option.some.inj H
        go_wp2_with (first|((with_reducible refine gate_callee (f:=17) rfl ?_);refine goesL_ (some 56) rfl rfl Try.func17 (by kernel_rfl) rfl #[.string t491,.string t490] rfl (by (try simp only [List.map_toArray,List.map_cons,List.map_nil]);first|done|rfl|(simp only [List.length_drop,List.length_take];rfl)) ?_;(with_reducible refine (impl_RestSome.calls t491 t490 t495 true _ A14.out).mono ?_);rintro e w21 ⟨rfl,hb⟩;refine ⟨_,rfl,?_⟩;have n0_:=Aside0.mk (below_step (by repeat (first|(with_reducible first|exact HB.out|apply below_alloc|apply pw_below_drewN|apply below_drew1)|exact HB.out)) hb);clear HB;have HB:=n0_;clear n0_;(try clear hb);(try clear hb2);(try clear hk);(try clear hi))|((with_reducible refine gate_callee (f:=18) rfl ?_);refine goesL_ (some 62) rfl rfl Try.func18 (by kernel_rfl) rfl #[.string t491,.string t490] rfl (by (try simp only [List.map_toArray,List.map_cons,List.map_nil]);first|done|rfl|(simp only [List.length_drop,List.length_take];rfl)) ?_;(with_reducible refine (impl_RestAll.calls t491 t490 t497 true _ A15.out).mono ?_);rintro e w22 ⟨rfl,hb⟩;refine ⟨_,rfl,?_⟩;have n0_:=Aside0.mk (below_step (by repeat (first|(with_reducible first|exact HB.out|apply below_alloc|apply pw_below_drewN|apply below_drew1)|exact HB.out)) hb);clear HB;have HB:=n0_;clear n0_;(try clear hb);(try clear hb2);(try clear hk);(try clear hi))|(go_at_call 19;(with_reducible refine (impl_SetSame.calls kj5 t490 (⟨#[40,48,41]⟩:ByteArray) true _ A17.out).mono ?_);rintro e w23 ⟨rfl,hb⟩;have n0_:=Aside0.mk (below_step (by repeat (first|(with_reducible first|exact HB.out|apply below_alloc|apply pw_below_drewN|apply below_drew1)|exact HB.out)) hb);clear HB;have HB:=n0_;clear n0_;(try clear hb);(try clear hb2);(try clear hk);(try clear hi))|(go_at_call 20;(with_reducible refine (impl_SetBelow.calls kj5 t489 t497 t500 _ A20.out).mono ?_);rintro e w24 ⟨rfl,hb⟩;have n0_:=Aside0.mk (below_step (by repeat (first|(with_reducible first|exact HB.out|apply below_alloc|apply pw_below_drewN|apply below_drew1)|exact HB.out)) hb);clear HB;have HB:=n0_;clear n0_;(try clear hb);(try clear hb2);(try clear hk);(try clear hi)))
        go_ret
        exact ⟨by first|rfl|(simp [errW_none,errW_some] <;> rfl)|(simp [*,errW_none,errW_some] <;> rfl)|(simp [errW_none,errW_some];exact ⟨rfl,rfl⟩),by repeat (first|(with_reducible first|exact HB.out|apply below_alloc|apply pw_below_drewN|apply below_drew1)|exact HB.out)⟩
       ·replace c19:=Bool.eq_false_iff.mpr c19
        subst c19
        have H1:(some true) = some r:=by rw [if_neg (show ¬ (false = true) by decide)] at H;exact H
        clear H
        have H:=H1
        clear H1
        obtain rfl:=Option.some.inj H
        go_wp2_with (first|((with_reducible refine gate_callee (f:=17) rfl ?_);refine goesL_ (some 56) rfl rfl Try.func17 (by kernel_rfl) rfl #[.string t491,.string t490] rfl (by (try simp only [List.map_toArray,List.map_cons,List.map_nil]);first|done|rfl|(simp only [List.length_drop,List.length_take];rfl)) ?_;(with_reducible refine (impl_RestSome.calls t491 t490 t495 true _ A14.out).mono ?_);rintro e w25 ⟨rfl,hb⟩;refine ⟨_,rfl,?_⟩;have n0_:=Aside0.mk (below_step (by repeat (first|(with_reducible first|exact HB.out|apply below_alloc|apply pw_below_drewN|apply below_drew1)|exact HB.out)) hb);clear HB;have HB:=n0_;clear n0_;(try clear hb);(try clear hb2);(try clear hk);(try clear hi))|((with_reducible refine gate_callee (f:=18) rfl ?_);refine goesL_ (some 62) rfl rfl Try.func18 (by kernel_rfl) rfl #[.string t491,.string t490] rfl (by (try simp only [List.map_toArray,List.map_cons,List.map_nil]);first|done|rfl|(simp only [List.length_drop,List.length_take];rfl)) ?_;(with_reducible refine (impl_RestAll.calls t491 t490 t497 false _ A15.out).mono ?_);rintro e w26 ⟨rfl,hb⟩;refine ⟨_,rfl,?_⟩;have n0_:=Aside0.mk (below_step (by repeat (first|(with_reducible first|exact HB.out|apply below_alloc|apply pw_below_drewN|apply below_drew1)|exact HB.out)) hb);clear HB;have HB:=n0_;clear n0_;(try clear hb);(try clear hb2);(try clear hk);(try clear hi))|(go_at_call 19;(with_reducible refine (impl_SetSame.calls kj5 t490 (⟨#[40,48,41]⟩:ByteArray) true _ A17.out).mono ?_);rintro e w27 ⟨rfl,hb⟩;have n0_:=Aside0.mk (below_step (by repeat (first|(with_reducible first|exact HB.out|apply below_alloc|apply pw_below_drewN|apply below_drew1)|exact HB.out)) hb);clear HB;have HB:=n0_;clear n0_;(try clear hb);(try clear hb2);(try clear hk);(try clear hi)))
        go_ret
        exact ⟨by first|rfl|(simp [errW_none,errW_some] <;> rfl)|(simp [*,errW_none,errW_some] <;> rfl)|(simp [errW_none,errW_some];exact ⟨rfl,rfl⟩),by repeat (first|(with_reducible first|exact HB.out|apply below_alloc|apply pw_below_drewN|apply below_drew1)|exact HB.out)⟩
      ·replace c18:=Bool.eq_false_iff.mpr c18
       subst c18
       have H1:((impl_SetBelow.f kj5 t489 t495).bind fun t501=>(if t501 = true then (if t498 = true then ((impl_SetBelow.f kj5 t489 t497).bind fun t502=>(some t502)) else (some true)) else (some false))) = some r:=by rw [if_neg (show ¬ (false = true) by decide)] at H;exact H
       clear H
       have H:=H1
       clear H1
       replace H:=Option.bind_eq_some_iff.mp H
       obtain ⟨t501,A280,H⟩:=H
       replace H:(if t501 = true then (if t498 = true then ((impl_SetBelow.f kj5 t489 t497).bind fun t502=>(some t502)) else (some true)) else (some false)) = some r:=H
       have A28:=Aside0.mk A280
       clear A280
       by_cases c29:t501 = true
       ·subst c29
        have H1:(if t498 = true then ((impl_SetBelow.f kj5 t489 t497).bind fun t502=>(some t502)) else (some true)) = some r:=by rw [if_pos rfl] at H;exact H
        clear H
        have H:=H1
        clear H1
        by_cases c30:t498 = true
        ·subst c30
         have H1:((impl_SetBelow.f kj5 t489 t497).bind fun t502=>(some t502)) = some r:=by rw [if_pos rfl] at H;exact H
         clear H
         have H:=H1
         clear H1
         replace H:=Option.bind_eq_some_iff.mp H
         obtain ⟨t502,A310,H⟩:=H
         replace H:(some t502) = some r:=H
         have A31:=Aside0.mk A310
         clear A310
         obtain rfl:=Option.some.inj H
         go_wp2_with (first|((with_reducible refine gate_callee (f:=17) rfl ?_);refine goesL_ (some 56) rfl rfl Try.func17 (by kernel_rfl) rfl #[.string t491,.string t490] rfl (by (try simp only [List.map_toArray,List.map_cons,List.map_nil]);first|done|rfl|(simp only [List.length_drop,List.length_take];rfl)) ?_;(with_reducible refine (impl_RestSome.calls t491 t490 t495 true _ A14.out).mono ?_);rintro e w32 ⟨rfl,hb⟩;refine ⟨_,rfl,?_⟩;have n0_:=Aside0.mk (below_step (by repeat (first|(with_reducible first|exact HB.out|apply below_alloc|apply pw_below_drewN|apply below_drew1)|exact HB.out)) hb);clear HB;have HB:=n0_;clear n0_;(try clear hb);(try clear hb2);(try clear hk);(try clear hi))|((with_reducible refine gate_callee (f:=18) rfl ?_);refine goesL_ (some 62) rfl rfl Try.func18 (by kernel_rfl) rfl #[.string t491,.string t490] rfl (by (try simp only [List.map_toArray,List.map_cons,List.map_nil]);first|done|rfl|(simp only [List.length_drop,List.length_take];rfl)) ?_;(with_reducible refine (impl_RestAll.calls t491 t490 t497 true _ A15.out).mono ?_);rintro e w33 ⟨rfl,hb⟩;refine ⟨_,rfl,?_⟩;have n0_:=Aside0.mk (below_step (by repeat (first|(with_reducible first|exact HB.out|apply below_alloc|apply pw_below_drewN|apply below_drew1)|exact HB.out)) hb);clear HB;have HB:=n0_;clear n0_;(try clear hb);(try clear hb2);(try clear hk);(try clear hi))|(go_at_call 19;(with_reducible refine (impl_SetSame.calls kj5 t490 (⟨#[40,48,41]⟩:ByteArray) false _ A17.out).mono ?_);rintro e w34 ⟨rfl,hb⟩;have n0_:=Aside0.mk (below_step (by repeat (first|(with_reducible first|exact HB.out|apply below_alloc|apply pw_below_drewN|apply below_drew1)|exact HB.out)) hb);clear HB;have HB:=n0_;clear n0_;(try clear hb);(try clear hb2);(try clear hk);(try clear hi))|(go_at_call 20;(with_reducible refine (impl_SetBelow.calls kj5 t489 t495 true _ A28.out).mono ?_);rintro e w35 ⟨rfl,hb⟩;have n0_:=Aside0.mk (below_step (by repeat (first|(with_reducible first|exact HB.out|apply below_alloc|apply pw_below_drewN|apply below_drew1)|exact HB.out)) hb);clear HB;have HB:=n0_;clear n0_;(try clear hb);(try clear hb2);(try clear hk);(try clear hi))|(go_at_call 20;(with_reducible refine (impl_SetBelow.calls kj5 t489 t497 t502 _ A31.out).mono ?_);rintro e w36 ⟨rfl,hb⟩;have n0_:=Aside0.mk (below_step (by repeat (first|(with_reducible first|exact HB.out|apply below_alloc|apply pw_below_drewN|apply below_drew1)|exact HB.out)) hb);clear HB;have HB:=n0_;clear n0_;(try clear hb);(try clear hb2);(try clear hk);(try clear hi)))
         go_ret
         exact ⟨by first|rfl|(simp [errW_none,errW_some] <;> rfl)|(simp [*,errW_none,errW_some] <;> rfl)|(simp [errW_none,errW_some];exact ⟨rfl,rfl⟩),by repeat (first|(with_reducible first|exact HB.out|apply below_alloc|apply pw_below_drewN|apply below_drew1)|exact HB.out)⟩
        ·replace c30:=Bool.eq_false_iff.mpr c30
         subst c30
         have H1:(some true) = some r:=by rw [if_neg (show ¬ (false = true) by decide)] at H;exact H
         clear H
         have H:=H1
         clear H1
         obtain rfl:=Option.some.inj H
         go_wp2_with (first|((with_reducible refine gate_callee (f:=17) rfl ?_);refine goesL_ (some 56) rfl rfl Try.func17 (by kernel_rfl) rfl #[.string t491,.string t490] rfl (by (try simp only [List.map_toArray,List.map_cons,List.map_nil]);first|done|rfl|(simp only [List.length_drop,List.length_take];rfl)) ?_;(with_reducible refine (impl_RestSome.calls t491 t490 t495 true _ A14.out).mono ?_);rintro e w37 ⟨rfl,hb⟩;refine ⟨_,rfl,?_⟩;have n0_:=Aside0.mk (below_step (by repeat (first|(with_reducible first|exact HB.out|apply below_alloc|apply pw_below_drewN|apply below_drew1)|exact HB.out)) hb);clear HB;have HB:=n0_;clear n0_;(try clear hb);(try clear hb2);(try clear hk);(try clear hi))|((with_reducible refine gate_callee (f:=18) rfl ?_);refine goesL_ (some 62) rfl rfl Try.func18 (by kernel_rfl) rfl #[.string t491,.string t490] rfl (by (try simp only [List.map_toArray,List.map_cons,List.map_nil]);first|done|rfl|(simp only [List.length_drop,List.length_take];rfl)) ?_;(with_reducible refine (impl_RestAll.calls t491 t490 t497 false _ A15.out).mono ?_);rintro e w38 ⟨rfl,hb⟩;refine ⟨_,rfl,?_⟩;have n0_:=Aside0.mk (below_step (by repeat (first|(with_reducible first|exact HB.out|apply below_alloc|apply pw_below_drewN|apply below_drew1)|exact HB.out)) hb);clear HB;have HB:=n0_;clear n0_;(try clear hb);(try clear hb2);(try clear hk);(try clear hi))|(go_at_call 19;(with_reducible refine (impl_SetSame.calls kj5 t490 (⟨#[40,48,41]⟩:ByteArray) false _ A17.out).mono ?_);rintro e w39 ⟨rfl,hb⟩;have n0_:=Aside0.mk (below_step (by repeat (first|(with_reducible first|exact HB.out|apply below_alloc|apply pw_below_drewN|apply below_drew1)|exact HB.out)) hb);clear HB;have HB:=n0_;clear n0_;(try clear hb);(try clear hb2);(try clear hk);(try clear hi))|(go_at_call 20;(with_reducible refine (impl_SetBelow.calls kj5 t489 t495 true _ A28.out).mono ?_);rintro e w40 ⟨rfl,hb⟩;have n0_:=Aside0.mk (below_step (by repeat (first|(with_reducible first|exact HB.out|apply below_alloc|apply pw_below_drewN|apply below_drew1)|exact HB.out)) hb);clear HB;have HB:=n0_;clear n0_;(try clear hb);(try clear hb2);(try clear hk);(try clear hi)))
         go_ret
         exact ⟨by first|rfl|(simp [errW_none,errW_some] <;> rfl)|(simp [*,errW_none,errW_some] <;> rfl)|(simp [errW_none,errW_some];exact ⟨rfl,rfl⟩),by repeat (first|(with_reducible first|exact HB.out|apply below_alloc|apply pw_below_drewN|apply below_drew1)|exact HB.out)⟩
       ·replace c29:=Bool.eq_false_iff.mpr c29
        subst c29
        have H1:(some false) = some r:=by rw [if_neg (show ¬ (false = true) by decide)] at H;exact H
        clear H
        have H:=H1
        clear H1
        obtain rfl:=Option.some.inj H
        go_wp2_with (first|((with_reducible refine gate_callee (f:=17) rfl ?_);refine goesL_ (some 56) rfl rfl Try.func17 (by kernel_rfl) rfl #[.string t491,.string t490] rfl (by (try simp only [List.map_toArray,List.map_cons,List.map_nil]);first|done|rfl|(simp only [List.length_drop,List.length_take];rfl)) ?_;(with_reducible refine (impl_RestSome.calls t491 t490 t495 true _ A14.out).mono ?_);rintro e w41 ⟨rfl,hb⟩;refine ⟨_,rfl,?_⟩;have n0_:=Aside0.mk (below_step (by repeat (first|(with_reducible first|exact HB.out|apply below_alloc|apply pw_below_drewN|apply below_drew1)|exact HB.out)) hb);clear HB;have HB:=n0_;clear n0_;(try clear hb);(try clear hb2);(try clear hk);(try clear hi))|((with_reducible refine gate_callee (f:=18) rfl ?_);refine goesL_ (some 62) rfl rfl Try.func18 (by kernel_rfl) rfl #[.string t491,.string t490] rfl (by (try simp only [List.map_toArray,List.map_cons,List.map_nil]);first|done|rfl|(simp only [List.length_drop,List.length_take];rfl)) ?_;(with_reducible refine (impl_RestAll.calls t491 t490 t497 t498 _ A15.out).mono ?_);rintro e w42 ⟨rfl,hb⟩;refine ⟨_,rfl,?_⟩;have n0_:=Aside0.mk (below_step (by repeat (first|(with_reducible first|exact HB.out|apply below_alloc|apply pw_below_drewN|apply below_drew1)|exact HB.out)) hb);clear HB;have HB:=n0_;clear n0_;(try clear hb);(try clear hb2);(try clear hk);(try clear hi))|(go_at_call 19;(with_reducible refine (impl_SetSame.calls kj5 t490 (⟨#[40,48,41]⟩:ByteArray) false _ A17.out).mono ?_);rintro e w43 ⟨rfl,hb⟩;have n0_:=Aside0.mk (below_step (by repeat (first|(with_reducible first|exact HB.out|apply below_alloc|apply pw_below_drewN|apply below_drew1)|exact HB.out)) hb);clear HB;have HB:=n0_;clear n0_;(try clear hb);(try clear hb2);(try clear hk);(try clear hi))|(go_at_call 20;(with_reducible refine (impl_SetBelow.calls kj5 t489 t495 false _ A28.out).mono ?_);rintro e w44 ⟨rfl,hb⟩;have n0_:=Aside0.mk (below_step (by repeat (first|(with_reducible first|exact HB.out|apply below_alloc|apply pw_below_drewN|apply below_drew1)|exact HB.out)) hb);clear HB;have HB:=n0_;clear n0_;(try clear hb);(try clear hb2);(try clear hk);(try clear hi)))
        go_ret
        exact ⟨by first|rfl|(simp [errW_none,errW_some] <;> rfl)|(simp [*,errW_none,errW_some] <;> rfl)|(simp [errW_none,errW_some];exact ⟨rfl,rfl⟩),by repeat (first|(with_reducible first|exact HB.out|apply below_alloc|apply pw_below_drewN|apply below_drew1)|exact HB.out)⟩
     ·replace c16:=Bool.eq_false_iff.mpr c16
      subst c16
      have H1:(if t498 = true then ((impl_SetBelow.f kj5 t489 t497).bind fun t503=>(some t503)) else (some true)) = some r:=by rw [if_neg (show ¬ (false = true) by decide)] at H;exact H
      clear H
      have H:=H1
      clear H1
      by_cases c45:t498 = true
      ·subst c45
       have H1:((impl_SetBelow.f kj5 t489 t497).bind fun t503=>(some t503)) = some r:=by rw [if_pos rfl] at H;exact H
       clear H
       have H:=H1
       clear H1
       replace H:=Option.bind_eq_some_iff.mp H
       obtain ⟨t503,A460,H⟩:=H
       replace H:(some t503) = some r:=H
       have A46:=Aside0.mk A460
       clear A460
       obtain rfl:=Option.some.inj H
       go_wp2_with (first|((with_reducible refine gate_callee (f:=17) rfl ?_);refine goesL_ (some 56) rfl rfl Try.func17 (by kernel_rfl) rfl #[.string t491,.string t490] rfl (by (try simp only [List.map_toArray,List.map_cons,List.map_nil]);first|done|rfl|(simp only [List.length_drop,List.length_take];rfl)) ?_;(with_reducible refine (impl_RestSome.calls t491 t490 t495 false _ A14.out).mono ?_);rintro e w47 ⟨rfl,hb⟩;refine ⟨_,rfl,?_⟩;have n0_:=Aside0.mk (below_step (by repeat (first|(with_reducible first|exact HB.out|apply below_alloc|apply pw_below_drewN|apply below_drew1)|exact HB.out)) hb);clear HB;have HB:=n0_;clear n0_;(try clear hb);(try clear hb2);(try clear hk);(try clear hi))|((with_reducible refine gate_callee (f:=18) rfl ?_);refine goesL_ (some 62) rfl rfl Try.func18 (by kernel_rfl) rfl #[.string t491,.string t490] rfl (by (try simp only [List.map_toArray,List.map_cons,List.map_nil]);first|done|rfl|(simp only [List.length_drop,List.length_take];rfl)) ?_;(with_reducible refine (impl_RestAll.calls t491 t490 t497 true _ A15.out).mono ?_);rintro e w48 ⟨rfl,hb⟩;refine ⟨_,rfl,?_⟩;have n0_:=Aside0.mk (below_step (by repeat (first|(with_reducible first|exact HB.out|apply below_alloc|apply pw_below_drewN|apply below_drew1)|exact HB.out)) hb);clear HB;have HB:=n0_;clear n0_;(try clear hb);(try clear hb2);(try clear hk);(try clear hi))|(go_at_call 20;(with_reducible refine (impl_SetBelow.calls kj5 t489 t497 t503 _ A46.out).mono ?_);rintro e w49 ⟨rfl,hb⟩;have n0_:=Aside0.mk (below_step (by repeat (first|(with_reducible first|exact HB.out|apply below_alloc|apply pw_below_drewN|apply below_drew1)|exact HB.out)) hb);clear HB;have HB:=n0_;clear n0_;(try clear hb);(try clear hb2);(try clear hk);(try clear hi)))
       go_ret
       exact ⟨by first|rfl|(simp [errW_none,errW_some] <;> rfl)|(simp [*,errW_none,errW_some] <;> rfl)|(simp [errW_none,errW_some];exact ⟨rfl,rfl⟩),by repeat (first|(with_reducible first|exact HB.out|apply below_alloc|apply pw_below_drewN|apply below_drew1)|exact HB.out)⟩
      ·replace c45:=Bool.eq_false_iff.mpr c45
       subst c45
       have H1:(some true) = some r:=by rw [if_neg (show ¬ (false = true) by decide)] at H;exact H
       clear H
       have H:=H1
       clear H1
       obtain rfl:=Option.some.inj H
       go_wp2_with (first|((with_reducible refine gate_callee (f:=17) rfl ?_);refine goesL_ (some 56) rfl rfl Try.func17 (by kernel_rfl) rfl #[.string t491,.string t490] rfl (by (try simp only [List.map_toArray,List.map_cons,List.map_nil]);first|done|rfl|(simp only [List.length_drop,List.length_take];rfl)) ?_;(with_reducible refine (impl_RestSome.calls t491 t490 t495 false _ A14.out).mono ?_);rintro e w50 ⟨rfl,hb⟩;refine ⟨_,rfl,?_⟩;have n0_:=Aside0.mk (below_step (by repeat (first|(with_reducible first|exact HB.out|apply below_alloc|apply pw_below_drewN|apply below_drew1)|exact HB.out)) hb);clear HB;have HB:=n0_;clear n0_;(try clear hb);(try clear hb2);(try clear hk);(try clear hi))|((with_reducible refine gate_callee (f:=18) rfl ?_);refine goesL_ (some 62) rfl rfl Try.func18 (by kernel_rfl) rfl #[.string t491,.string t490] rfl (by (try simp only [List.map_toArray,List.map_cons,List.map_nil]);first|done|rfl|(simp only [List.length_drop,List.length_take];rfl)) ?_;(with_reducible refine (impl_RestAll.calls t491 t490 t497 false _ A15.out).mono ?_);rintro e w51 ⟨rfl,hb⟩;refine ⟨_,rfl,?_⟩;have n0_:=Aside0.mk (below_step (by repeat (first|(with_reducible first|exact HB.out|apply below_alloc|apply pw_below_drewN|apply below_drew1)|exact HB.out)) hb);clear HB;have HB:=n0_;clear n0_;(try clear hb);(try clear hb2);(try clear hk);(try clear hi)))
       go_ret
       exact ⟨by first|rfl|(simp [errW_none,errW_some] <;> rfl)|(simp [*,errW_none,errW_some] <;> rfl)|(simp [errW_none,errW_some];exact ⟨rfl,rfl⟩),by repeat (first|(with_reducible first|exact HB.out|apply below_alloc|apply pw_below_drewN|apply below_drew1)|exact HB.out)⟩

/-- THE ONE PURE STATEMENT of laws_FnRestUndo: yours. -/
noncomputable def laws_FnRestUndo.Pure:Prop:=∀ (l0:List Int),l0.length≤maxLen → l0.length * 1≤140737488351232 → (∀ x ∈ l0,(Lit.int .u8 x).wf = true) → ∃ k,laws_FnRestUndo.f k l0 = some true
theorem laws_FnRestUndo.walk (P:laws_FnRestUndo.Pure) (a0:Option Addr) (len0 cap0:Nat) (z0:List Int) (w:World) (w0:(a0 = none∧len0 = 0∧cap0 = 0∧z0 = []) ∨ ∃ x,a0 = some x∧len0≤cap0∧cap0≤maxLen∧z0.length = cap0∧(∀ i,i < z0.length → w.cell? (x.add i) = some (.int .u8 (z0.getD i 0)))∧∀ n ∈ z0,(Lit.int .u8 n).wf = true) (y0:len0 * 1≤140737488351232) :
  Calls Try.prog 6 #[.slice a0 len0 cap0] w fun e w'=>e = .returned (.bool true)∧Below w.heap.size w w':=by
 obtain ⟨l0,rfl,hr0,hm0,hw0,hc0⟩:=ReadsInt.ofRowC w0
 obtain ⟨k,h⟩:=P l0 hm0 y0 hw0
 refine (laws_FnRestUndo.calls k _ _ l0 true w (Kd.C_of_reads (d:=(0:Int)) (h1:=fun _=>rfl) hr0) hc0 h).mono ?_
 rintro e w' ⟨rfl,hd⟩
 exact ⟨rfl,hd⟩

end Go.Proofs.Ytaebonckcbhofaa.P

-- spec.l1Write writes the text of a tail and a ring.
namespace Go.Proofs.Ytaebonckcbhofaa.P
open Go.RowKit Go.Proofs.YtaebonckcbhofaaW.PrintWords Go.Proofs.YtaebonckcbhofaaW.PrintLast Go.Proofs.YtaebonckcbhofaaW.PrintMore
set_option linter.unusedVariables false
set_option linter.unusedSimpArgs false
theorem write_byte (b : Bool) : (spec_l1Bit.f b) = some (if b then 1 else 0) := by cases b <;> rfl
theorem bt_sgn (b : Bool) : bt (⟨#[48, 49]⟩ : ByteArray) (if b then 1 else 0) = sgnI b := by cases b <;> decide
theorem write_l1 (t r : List Bool) (hr : r.length ≤ 1000000) : ∀ (d i : Nat) (acc : List Int), i ≤ r.length → r.length - i = d → acc.length ≤ 4000000 + i →
    Ev (fun k => spec_l1Write.l1 k acc i t r) (strOfNums (acc ++ (r.drop i).map sgnI ++ [41])) := by
  intro d
  induction d with
  | zero =>
    intro i acc hi hd ha
    have : r.drop i = [] := by rw [List.drop_eq_nil_iff]; omega
    rw [this]
    refine Ev.step (f := fun k => some (strOfNums (acc ++ [41]))) (fun k => ?_) (by simpa using Ev.now _)
    simp only [spec_l1Write.l1]; rw [if_neg (by omega), if_pos (by omega)]
  | succ d ih =>
    intro i acc hi hd ha
    have hw : wrap64 ((i : Int) + 1) = ((i + 1 : Nat) : Int) := by rw [w64 (by omega) (by omega)]; omega
    refine Ev.step (f := fun k => spec_l1Write.l1 k (acc ++ [sgnI (r.getD i false)]) ((i + 1 : Nat) : Int) t r) (fun k => ?_) ?_
    · simp only [spec_l1Write.l1]
      rw [if_pos (by omega), if_pos (by omega), rdOf_nat, write_byte]
      simp only [Option.bind_some]
      rw [if_pos (by split <;> decide), if_pos (by split <;> decide), if_pos (by omega), bt_sgn, hw]
    · have := ih (i + 1) (acc ++ [sgnI (r.getD i false)]) (by omega) (by omega) (by simp; omega)
      rw [drop_getD (show i < r.length by omega)]
      simpa using this
theorem write_l0 (t r : List Bool) (ht : t.length ≤ 1000000) (hr : r.length ≤ 1000000) : ∀ (d i : Nat) (acc : List Int), i ≤ t.length → t.length - i = d → acc.length ≤ i →
    Ev (fun k => spec_l1Write.l0 k acc i t r) (strOfNums (acc ++ (t.drop i).map sgnI ++ [40] ++ r.map sgnI ++ [41])) := by
  intro d
  induction d with
  | zero =>
    intro i acc hi hd ha
    have : t.drop i = [] := by rw [List.drop_eq_nil_iff]; omega
    rw [this]
    have h := write_l1 t r hr r.length 0 (acc ++ [40]) (by omega) (by omega) (by simp; omega)
    refine Ev.step (f := fun k => spec_l1Write.l1 k (acc ++ [40]) 0 t r) (fun k => ?_) (by simpa using h)
    simp only [spec_l1Write.l0]; rw [if_neg (by omega), if_pos (by omega)]
  | succ d ih =>
    intro i acc hi hd ha
    have hw : wrap64 ((i : Int) + 1) = ((i + 1 : Nat) : Int) := by rw [w64 (by omega) (by omega)]; omega
    refine Ev.step (f := fun k => spec_l1Write.l0 k (acc ++ [sgnI (t.getD i false)]) ((i + 1 : Nat) : Int) t r) (fun k => ?_) ?_
    · simp only [spec_l1Write.l0]
      rw [if_pos (by omega), if_pos (by omega), rdOf_nat, write_byte]
      simp only [Option.bind_some]
      rw [if_pos (by split <;> decide), if_pos (by split <;> decide), if_pos (by omega), bt_sgn, hw]
    · have := ih (i + 1) (acc ++ [sgnI (t.getD i false)]) (by omega) (by omega) (by simp; omega)
      rw [drop_getD (show i < t.length by omega)]
      simpa using this
theorem write_f (t r : List Bool) (ht : t.length ≤ 1000000) (hr : r.length ≤ 1000000) : Ev (fun k => spec_l1Write.f k t r) (textOf t r) := by
  have := write_l0 t r ht hr t.length 0 [] (by omega) (by omega) (by simp)
  have e : strOfNums (t.map sgnI ++ [40] ++ r.map sgnI ++ [41]) = textOf t r := by
    simp only [strOfNums, textOf, List.map_append, List.map_map]
    have : (fun n : Int => UInt8.ofNat n.toNat) ∘ sgnI = sgn := by funext b; cases b <;> rfl
    rw [this]; rfl
  rw [← e]
  simpa [spec_l1Write.f] using this


end Go.Proofs.Ytaebonckcbhofaa.P

-- spec.l1Done writes the tidy text, if it is not too long.
namespace Go.Proofs.Ytaebonckcbhofaa.P
open Go.RowKit Go.Proofs.YtaebonckcbhofaaW.PrintWords Go.Proofs.YtaebonckcbhofaaW.PrintLast Go.Proofs.YtaebonckcbhofaaW.PrintMore
set_option linter.unusedVariables false
set_option linter.unusedSimpArgs false

theorem done_f (t r : List Bool) (hr : r ≠ []) (hl : t.length + r.length ≤ 4000) : Ev (fun k => spec_l1Done.f k t r) (txt (cn (hasB t r))) := by
  have ht := cn_tidy (t := t) hr
  have h1 := ht.tl
  have h2 := ht.rl
  refine Ev.congr (fun k => rfl) (Ev.bind (less_cn t r hr (by omega)) ?_)
  unfold txt
  by_cases ha : (cn (hasB t r)).1.length ≤ 60
  · simp only [if_neg (show ¬ (((cn (hasB t r)).1.length : Int) > 60) by omega)]
    by_cases hb : (cn (hasB t r)).2.length ≤ 60
    · simp only [if_neg (show ¬ (((cn (hasB t r)).2.length : Int) > 60) by omega)]
      rw [if_pos ⟨ha, hb⟩]
      exact Ev.bind (write_f _ _ (by omega) (by omega)) (Ev.now _)
    · simp only [if_pos (show (((cn (hasB t r)).2.length : Int) > 60) by omega)]
      rw [if_neg (fun h => hb h.2)]; exact Ev.now _
  · simp only [if_pos (show (((cn (hasB t r)).1.length : Int) > 60) by omega)]
    rw [if_neg (fun h => ha h.1)]; exact Ev.now _

end Go.Proofs.Ytaebonckcbhofaa.P

-- spec.l2Fill: a set out of marks.
namespace Go.Proofs.Ytaebonckcbhofaa.P
open Go.RowKit Go.Proofs.YtaebonckcbhofaaW.PrintWords Go.Proofs.YtaebonckcbhofaaW.PrintLast Go.Proofs.YtaebonckcbhofaaW.PrintMore
set_option linter.unusedVariables false
set_option linter.unusedSimpArgs false

theorem done_mk {q : Nat → Bool} {m p : Nat} (hp : 0 < p) (h : Per q m p) (hl : m + p ≤ 4000) : Ev (fun k => spec_l1Done.f k (mkT q m) (mkR q m p)) (txt (cn q)) := by
  have := done_f (mkT q m) (mkR q m p) (mkR_ne q hp) (by rw [mkT_length, mkR_length]; omega)
  rw [mk_has hp h] at this; exact this
theorem fill_f {q : Nat → Bool} {m p : Nat} (hp : 0 < p) (h : Per q m p) (hl : m + p ≤ 4000) : Ev (fun k => spec_l2Fill.f k (mkT q (m + p)) (m : Int)) (txt (cn q)) := by
  refine Ev.congr (f := fun k => (spec_l1Done.f k (mkT q m) (mkR q m p)).bind fun bt203 => (some (bt203.1, bt203.2))) (fun k => ?_) (Ev.bind (done_mk hp h hl) (Ev.now _))
  unfold spec_l2Fill.f
  rw [if_pos (by omega), if_pos (by rw [mkT_length]; omega), Int.toNat_natCast, mkT_take, mkT_drop]

end Go.Proofs.Ytaebonckcbhofaa.P

-- spec.l4Sum makes the sum of two small sets.
namespace Go.Proofs.Ytaebonckcbhofaa.P
open Go.RowKit Go.Proofs.YtaebonckcbhofaaW.PrintWords Go.Proofs.YtaebonckcbhofaaW.PrintLast Go.Proofs.YtaebonckcbhofaaW.PrintMore
set_option linter.unusedVariables false
set_option linter.unusedSimpArgs false

/-- The sums, of different ones if so asked, of parts less than i. -/
noncomputable def sumB (f g : Nat → Bool) (diff : Bool) (n i : Nat) : Bool := dec (∃ k, k < i ∧ k ≤ n ∧ f k = true ∧ g (n - k) = true ∧ (diff = true → k ≠ n - k))
theorem sumB_zero (f g : Nat → Bool) (diff : Bool) (n : Nat) : sumB f g diff n 0 = false := dec_false fun ⟨k, h, _⟩ => by omega
theorem sumB_old {f g : Nat → Bool} {diff : Bool} {n i : Nat} (h : sumB f g diff n i = true) : sumB f g diff n (i + 1) = true := by
  obtain ⟨k, h1, h2⟩ := dec_iff.1 h
  exact dec_true ⟨k, by omega, h2⟩
theorem sumB_new {f g : Nat → Bool} {diff : Bool} {n i : Nat} (hi : i ≤ n) (h : sumB f g diff n i = false) : sumB f g diff n (i + 1) = (f i && (g (n - i) && (!diff || decide (i ≠ n - i)))) := by
  rw [Bool.eq_iff_iff, Bool.and_eq_true, Bool.and_eq_true, Bool.or_eq_true, Bool.not_eq_true', decide_eq_true_iff]
  unfold sumB
  rw [dec_iff]
  constructor
  · rintro ⟨k, h1, h2, h3, h4, h5⟩
    rcases Nat.lt_or_ge k i with x | x
    · have : sumB f g diff n i = true := dec_true ⟨k, x, h2, h3, h4, h5⟩
      rw [h] at this; cases this
    · have e : k = i := by omega
      subst e
      refine ⟨h3, h4, ?_⟩
      cases diff with
      | false => exact .inl rfl
      | true => exact .inr (h5 rfl)
  · rintro ⟨h1, h2, h3⟩
    refine ⟨i, by omega, hi, h1, h2, fun hd => ?_⟩
    rcases h3 with h3 | h3
    · rw [hd] at h3; cases h3
    · exact h3
theorem l4sum_l1 (a b c d : List Bool) (hb : b ≠ []) (hd : d ≠ []) (h1 : a.length ≤ 60) (h2 : b.length ≤ 60) (h3 : c.length ≤ 60) (h4 : d.length ≤ 60) (diff : Bool) (T L n : Nat) (hn : n ≤ 100000) (marks : List Bool) (hm : marks.length ≤ 1000) (v : ByteArray × Bool)
    (hv : Ev (fun k => spec_l4Sum.l0 k diff T L (marks ++ [sumB (hasB a b) (hasB c d) diff n (n + 1)]) ((n + 1 : Nat) : Int) a b c d) v) : ∀ (e i : Nat), i ≤ n + 1 → n + 1 - i = e →
    Ev (fun k => spec_l4Sum.l1 k diff T L marks n (sumB (hasB a b) (hasB c d) diff n i) i a b c d) v := by
  have HV := Aside0.mk hv
  clear hv
  have hlen : marks.length < 140737488355328 := by omega
  intro e
  induction e with
  | zero =>
    intro i hi he
    have e : i = n + 1 := by omega
    subst e
    refine Ev.step (fun k => ?_) HV.out
    simp only [spec_l4Sum.l1]
    rw [if_neg (by omega), if_pos hlen, wsucc (by omega)]
  | succ e ih =>
    intro i hi he
    have c1 : (i : Int) ≤ (n : Int) := by omega
    have c3 : i ≤ 4611686018427387904 := by omega
    have c4 : i ≤ n := by omega
    have c5 : n ≤ 4611686018427387904 := by omega
    have c6 : ((i : Int) ≠ ((n - i : Nat) : Int)) ↔ i ≠ n - i := by omega
    have hih := ih (i + 1) (by omega) (by omega)
    have e1 := shas_f a b hb (by omega) i (by omega)
    have e2 := shas_f c d hd (by omega) (n - i) (by omega)
    have hnew := sumB_new (f := hasB a b) (g := hasB c d) (diff := diff) c4
    have hold := sumB_old (f := hasB a b) (g := hasB c d) (diff := diff) (n := n) (i := i)
    cases hx : sumB (hasB a b) (hasB c d) diff n i with
    | true =>
      rw [hold hx] at hih
      refine Ev.step (fun k => ?_) hih
      simp only [spec_l4Sum.l1]
      rw [if_pos c1, if_pos (by trivial), wsucc c3]
    | false =>
      rw [hnew hx] at hih
      refine Ev.step (fun k => ?_) hih
      simp only [spec_l4Sum.l1]
      rw [if_pos c1, if_neg (by decide), e1, Option.bind_some]
      cases hf : hasB a b i with
      | false => rw [if_neg (by decide), wsucc c3, Bool.false_and]
      | true =>
        rw [if_pos (by trivial), wsub c4 c5, e2, Option.bind_some, Bool.true_and]
        cases hg : hasB c d (n - i) with
        | false => rw [if_neg (by decide), wsucc c3, Bool.false_and]
        | true =>
          rw [if_pos (by trivial), Bool.true_and]
          cases diff with
          | false => rw [if_neg (by decide), wsucc c3, Bool.not_false, Bool.true_or]
          | true =>
            rw [if_pos (by trivial), wsucc c3, Bool.not_true, Bool.false_or]
            have : ((i : Int) != ((n - i : Nat) : Int)) = decide (i ≠ n - i) := by
              rw [Bool.eq_iff_iff, decide_eq_true_iff, bne_iff_ne]; exact c6
            rw [this]
theorem l4sum_l0 (a b c d : List Bool) (hb : b ≠ []) (hd : d ≠ []) (h1 : a.length ≤ 60) (h2 : b.length ≤ 60) (h3 : c.length ≤ 60) (h4 : d.length ≤ 60) (diff : Bool) (q : Nat → Bool) (hq : ∀ n, sumB (hasB a b) (hasB c d) diff n (n + 1) = q n) (T L : Nat) (hL : 0 < L) (hTL : T + L ≤ 900) (hper : Per q T L) : ∀ (e n : Nat), n ≤ T + L → T + L - n = e →
    Ev (fun k => spec_l4Sum.l0 k diff T L (mkT q n) n a b c d) (txt (cn q)) := by
  intro e
  induction e with
  | zero =>
    intro n hi he
    have e : n = T + L := by omega
    subst e
    refine Ev.step (f := fun k => (spec_l2Fill.f k (mkT q (T + L)) (T : Int)).bind fun bt309 => (some (bt309.1, bt309.2))) (fun k => ?_) (Ev.bind (fill_f hL hper (by omega)) (Ev.now _))
    simp only [spec_l4Sum.l0]
    rw [wadd (by omega), if_neg (Int.lt_irrefl _)]
  | succ e ih =>
    intro n hi he
    have h5 := ih (n + 1) (by omega) (by omega)
    rw [mkT_succ, ← hq n] at h5
    have h6 := l4sum_l1 a b c d hb hd h1 h2 h3 h4 diff T L n (by omega) _ (by rw [mkT_length]; omega) _ h5 _ 0 (Nat.zero_le _) rfl
    rw [sumB_zero] at h6
    refine Ev.step (fun k => ?_) h6
    simp only [spec_l4Sum.l0]
    rw [wadd (by omega), if_pos (by omega)]; rfl
theorem l4sum_f (a b c d : List Bool) (hb : b ≠ []) (hd : d ≠ []) (h1 : a.length ≤ 8) (h2 : b.length ≤ 8) (h3 : c.length ≤ 8) (h4 : d.length ≤ 8) (diff : Bool) (q : Nat → Bool) (hq : ∀ n, sumB (hasB a b) (hasB c d) diff n (n + 1) = q n) (hper : Per q (2 * max a.length c.length + 3 * Nat.lcm b.length d.length + 2) (Nat.lcm b.length d.length)) : Ev (fun k => spec_l4Sum.f k a b c d diff) (txt (cn q)) := by
  have hp := List.length_pos_iff.2 hb
  have hp2 := List.length_pos_iff.2 hd
  have hL := lcm_le8 hp hp2 h2 h4
  have hL0 : 0 < Nat.lcm b.length d.length := Nat.lcm_pos hp hp2
  have hM : max a.length c.length ≤ 8 := by omega
  refine Ev.congr (fun k => rfl) (Ev.bind (shape_f a b c d (by omega) (by omega) hp) ?_)
  have h6 := l4sum_l0 a b c d hb hd (by omega) (by omega) (by omega) (by omega) diff q hq (2 * max a.length c.length + 3 * Nat.lcm b.length d.length + 2) (Nat.lcm b.length d.length) hL0 (by omega) hper _ 0 (Nat.zero_le _) rfl
  generalize max a.length c.length = M at *
  generalize Nat.lcm b.length d.length = L at *
  have e : wrap64 ((wrap64 ((wrap64 (2 * ((M : Nat) : Int))) + (wrap64 (3 * ((L : Nat) : Int))))) + 2) = ((2 * M + 3 * L + 2 : Nat) : Int) := by
    rw [w64 (x := 2 * (M : Int)) (by omega) (by omega), w64 (x := 3 * (L : Int)) (by omega) (by omega), w64 (x := 2 * (M : Int) + 3 * (L : Int)) (by omega) (by omega), w64 (by omega) (by omega)]; omega
  simp only [e]
  exact h6
theorem sumB_sumq (f g : Nat → Bool) (n : Nat) : sumB f g false n (n + 1) = sumq f g n := dec_congr ⟨fun ⟨k, _, h2, h3, h4, _⟩ => ⟨k, h2, h3, h4⟩, fun ⟨k, h2, h3, h4⟩ => ⟨k, by omega, h2, h3, h4, fun h => by cases h⟩⟩
theorem sumB_dblq (f : Nat → Bool) (n : Nat) : sumB f f true n (n + 1) = dblq f n := dec_congr ⟨fun ⟨k, _, h2, h3, h4, h5⟩ => ⟨k, h2, h3, h4, h5 rfl⟩, fun ⟨k, h2, h3, h4, h5⟩ => ⟨k, by omega, h2, h3, h4, fun _ => h5⟩⟩
end Go.Proofs.Ytaebonckcbhofaa.P

-- spec.SumOf.
namespace Go.Proofs.Ytaebonckcbhofaa.P
open Go.RowKit Go.Proofs.YtaebonckcbhofaaW.PrintWords Go.Proofs.YtaebonckcbhofaaW.PrintLast Go.Proofs.YtaebonckcbhofaaW.PrintMore
set_option linter.unusedVariables false
set_option linter.unusedSimpArgs false

theorem ssumOf_f (s t : ByteArray) (hs : s.size ≤ 70368744177664) (ht : t.size ≤ 70368744177664) : Ev (fun k => spec_SumOf.f k s t) (smr (chrs s) (chrs t)) := by
  obtain ⟨x, y, hev, hxy⟩ := l4small_f s hs
  obtain ⟨x2, y2, hev2, hxy2⟩ := l4small_f t ht
  refine Ev.congr (fun k => rfl) (Ev.bind hev (Ev.bind hev2 ?_))
  unfold smr
  cases hb : smallB (chrs s) with
  | false => simp only [Bool.false_eq_true, if_false, Bool.false_and]; exact Ev.now _
  | true =>
    cases hb2 : smallB (chrs t) with
    | false => simp only [Bool.false_eq_true, if_false, Bool.and_false, if_true]; exact Ev.now _
    | true =>
      obtain ⟨a, c, hp, hset, hm1, hm2, hpos, hper⟩ := smallB_ok hb
      obtain ⟨a2, c2, hp2, hset2, hm3, hm4, hpos2, hper2⟩ := smallB_ok hb2
      obtain ⟨rfl, rfl⟩ := hxy (by rw [hp]; rfl)
      obtain ⟨rfl, rfl⟩ := hxy2 (by rw [hp2]; rfl)
      have hh1 : hasB (cn (setf (chrs s))).1 (cn (setf (chrs s))).2 = setf (chrs s) := by rw [hset]; exact cn_has (parse_per hp).1 (parse_per hp).2
      have hh2 : hasB (cn (setf (chrs t))).1 (cn (setf (chrs t))).2 = setf (chrs t) := by rw [hset2]; exact cn_has (parse_per hp2).1 (parse_per hp2).2
      generalize (cn (setf (chrs s))).1 = x at *
      generalize (cn (setf (chrs s))).2 = y at *
      generalize (cn (setf (chrs t))).1 = x2 at *
      generalize (cn (setf (chrs t))).2 = y2 at *
      have hper3 : Per (sumq (hasB x y) (hasB x2 y2)) (2 * max x.length x2.length + 3 * Nat.lcm y.length y2.length + 2) (Nat.lcm y.length y2.length) := (sumq_per ((hasB_per x y).dvd (Nat.dvd_lcm_left _ _)) ((hasB_per x2 y2).dvd (Nat.dvd_lcm_right _ _))).mono (by omega)
      have := l4sum_f x y x2 y2 (List.length_pos_iff.1 hpos) (List.length_pos_iff.1 hpos2) hm1 hm2 hm3 hm4 false _ (fun n => sumB_sumq _ _ n) hper3
      rw [hh1, hh2] at this
      simp only [if_true, Bool.and_self]
      exact Ev.bind this (Ev.now _)
end Go.Proofs.Ytaebonckcbhofaa.P

-- impl.SetHas; the text of a tidy set, read again.
namespace Go.Proofs.Ytaebonckcbhofaa.P
open Go.RowKit Go.Proofs.YtaebonckcbhofaaW.PrintWords Go.Proofs.YtaebonckcbhofaaW.PrintLast Go.Proofs.YtaebonckcbhofaaW.PrintMore
set_option linter.unusedVariables false
set_option linter.unusedSimpArgs false

theorem isetHas_f (s : ByteArray) (hs : s.size ≤ 70368744177664) (n : Nat) (hn : n ≤ 1000000) : Ev (fun k => impl_SetHas.f k s n) (setf (chrs s) n) := by
  obtain ⟨x, y, hev, hxy⟩ := setOf_f s hs
  refine Ev.congr (fun k => rfl) (Ev.bind hev ?_)
  cases h : parse (chrs s) with
  | none => simp only [Option.isSome_none, Bool.false_eq_true, if_false, setf, h]; exact Ev.now _
  | some ab =>
    obtain ⟨rfl, rfl⟩ := hxy ab.1 ab.2 h
    have hb := parse_some (a := ab.1) (b := ab.2) h
    rw [setf_some (a := ab.1) (b := ab.2) h]
    simp only [Option.isSome_some, if_true, ihas_f ab.1 ab.2 hb.2.2 (by omega) n (by omega), Option.bind_some]
    exact Ev.now _
theorem isetHas_neg (s : ByteArray) (hs : s.size ≤ 70368744177664) (n : Int) (hn : n < 0) : Ev (fun k => impl_SetHas.f k s n) false := by
  obtain ⟨x, y, hev, hxy⟩ := setOf_f s hs
  refine Ev.congr (fun k => rfl) (Ev.bind hev ?_)
  simp only [ihas_neg x y n hn, Option.bind_some]
  cases (parse (chrs s)).isSome with
  | true => exact Ev.now _
  | false => exact Ev.now _
theorem txt_size (p : List Bool × List Bool) : (txt p).1.size ≤ 122 := by
  unfold txt
  split
  · show (textOf p.1 p.2).size ≤ 122; rw [textOf_size]; omega
  · show (0 : Nat) ≤ 122; omega
section
variable {q : Nat → Bool} {m p : Nat}
theorem txt_fits {t : List Bool × List Bool} (h : (txt t).2 = true) : t.1.length ≤ 60 ∧ t.2.length ≤ 60 := by
  unfold txt at h
  split at h
  · assumption
  · cases h
theorem txt_parse (hp : 0 < p) (h : Per q m p) (ht : (txt (cn q)).2 = true) : parse (chrs (txt (cn q)).1) = some ((cn q).1, (cn q).2) := by
  obtain ⟨h1, h2⟩ := txt_fits ht
  rw [txt_ok h1 h2]
  exact parse_cn hp h h1 h2
theorem txt_setf (hp : 0 < p) (h : Per q m p) (ht : (txt (cn q)).2 = true) : setf (chrs (txt (cn q)).1) = q := by
  rw [setf_some (txt_parse hp h ht), cn_has hp h]
theorem txt_tdy (hp : 0 < p) (h : Per q m p) (ht : (txt (cn q)).2 = true) : tdy (chrs (txt (cn q)).1) = ((txt (cn q)).1, true) := by
  obtain ⟨h1, h2⟩ := txt_fits ht
  rw [tdy_some (txt_parse hp h ht), cn_cn hp h, txt_ok h1 h2]
end
end Go.Proofs.Ytaebonckcbhofaa.P

-- Words for the laws that ask a text number by number.
namespace Go.Proofs.Ytaebonckcbhofaa.P
open Go.RowKit Go.Proofs.YtaebonckcbhofaaW.PrintWords Go.Proofs.YtaebonckcbhofaaW.PrintLast Go.Proofs.YtaebonckcbhofaaW.PrintMore
set_option linter.unusedVariables false
set_option linter.unusedSimpArgs false

theorem ite_ok {c : Bool} {A : ByteArray × Bool} (h : (if c = true then A else (⟨#[]⟩, false)).2 = true) : c = true ∧ A.2 = true := by
  cases c with
  | true => exact ⟨rfl, by simpa using h⟩
  | false => simp at h
theorem bne_no (b : Bool) : ¬ ((b != b) = true) := by cases b <;> decide
theorem down1 {k K : Nat} (h : K + 1 ≤ k) : ∃ j, k = j + 1 ∧ K ≤ j := ⟨k - 1, by omega, by omega⟩
end Go.Proofs.Ytaebonckcbhofaa.P

-- What SumOf and SumDouble answer, where they do.
namespace Go.Proofs.Ytaebonckcbhofaa.P
open Go.RowKit Go.Proofs.YtaebonckcbhofaaW.PrintWords Go.Proofs.YtaebonckcbhofaaW.PrintLast Go.Proofs.YtaebonckcbhofaaW.PrintMore
set_option linter.unusedVariables false
set_option linter.unusedSimpArgs false

theorem smr_ok {s t : List UInt8} (h : (smr s t).2 = true) : ∃ m p, 0 < p ∧ Per (sumq (setf s) (setf t)) m p ∧ smr s t = txt (cn (sumq (setf s) (setf t))) ∧ (txt (cn (sumq (setf s) (setf t)))).2 = true := by
  unfold smr at h ⊢
  obtain ⟨hc, hA⟩ := ite_ok h
  rw [if_pos hc]
  rw [Bool.and_eq_true] at hc
  obtain ⟨a, c, hp, hset, hm1, hm2, hpos, hper⟩ := smallB_ok hc.1
  obtain ⟨a2, c2, hp2, hset2, hm3, hm4, hpos2, hper2⟩ := smallB_ok hc.2
  exact ⟨_, _, Nat.lcm_pos hpos hpos2, sumq_per (hper.dvd (Nat.dvd_lcm_left _ _)) (hper2.dvd (Nat.dvd_lcm_right _ _)), rfl, hA⟩
theorem smr_small {s t : List UInt8} (h : (smr s t).2 = true) : smallB s = true ∧ smallB t = true := by
  unfold smr at h
  exact Bool.and_eq_true_iff.1 (ite_ok h).1
theorem smr_comm (s t : List UInt8) : smr s t = smr t s := by
  unfold smr
  rw [Bool.and_comm, sumq_comm]
theorem smr_sz (s t : List UInt8) : (smr s t).1.size ≤ 122 := by
  unfold smr
  split
  · exact txt_size _
  · show (0 : Nat) ≤ 122; omega
theorem dbr_ok {s : List UInt8} (h : (dbr s).2 = true) : ∃ m p, 0 < p ∧ Per (dblq (setf s)) m p ∧ dbr s = txt (cn (dblq (setf s))) ∧ (txt (cn (dblq (setf s)))).2 = true := by
  unfold dbr at h ⊢
  obtain ⟨hc, hA⟩ := ite_ok h
  rw [if_pos hc]
  obtain ⟨a, c, hp, hset, hm1, hm2, hpos, hper⟩ := smallB_ok hc
  exact ⟨_, _, hpos, dblq_per hper, rfl, hA⟩
end Go.Proofs.Ytaebonckcbhofaa.P

-- For every code the law FnRestUndo holds.
namespace Go.Proofs.Ytaebonckcbhofaa.P
open Go.RowKit Go.Proofs.YtaebonckcbhofaaW.PrintWords Go.Proofs.YtaebonckcbhofaaW.PrintLast Go.Proofs.YtaebonckcbhofaaW.PrintMore
set_option linter.unusedVariables false
set_option linter.unusedSimpArgs false

theorem drawRestUndo_f (l : List Int) (h : ∀ x ∈ l, (Lit.int .u8 x).wf = true) : ∃ (s t : ByteArray), Few s ∧ Few t ∧ Ev (fun k => spec_DrawSumOf.f k l) (s, t) := by
  obtain ⟨s, q, hf, hq, K0, h0⟩ := set91_f (code_of h) 0 (by omega)
  dsimp only at h0
  have g0 : ∀ k, K0 ≤ k → spec_l91Set.f k (l.take 2000) 0 = some (s, (q : Int)) := h0
  obtain ⟨t, q2, hf2, hq2, K1, h1⟩ := set91_f (code_of h) q (by omega)
  dsimp only at h1
  have g1 : ∀ k, K1 ≤ k → spec_l91Set.f k (l.take 2000) (q : Int) = some (t, (q2 : Int)) := h1
  refine ⟨s, t, hf, hf2, K0 + K1, fun k hk => ?_⟩
  try dsimp only
  unfold spec_DrawSumOf.f
  rw [open_f, Option.bind_some, g0 k (by omega), Option.bind_some, g1 k (by omega), Option.bind_some]
theorem rsr_ok {s t : List UInt8} {al : Bool} (h : (rsr s t al).2 = true) : ∃ m p, 0 < p ∧ Per (qs (setf s) (setf t) al) m p ∧ rsr s t al = txt (cn (qs (setf s) (setf t) al)) ∧ (txt (cn (qs (setf s) (setf t) al))).2 = true := by
  unfold rsr at h ⊢
  obtain ⟨hc, hA⟩ := ite_ok h
  rw [if_pos hc]
  rw [Bool.and_eq_true] at hc
  obtain ⟨⟨a, b⟩, hp⟩ := Option.isSome_iff_exists.1 hc.1
  obtain ⟨p1, p2⟩ := parse_per hp
  refine ⟨a.length, b.length, p1, ?_, rfl, hA⟩
  rw [setf_some hp]
  exact qs_per p2 _ _
theorem rsr_sz (s t : List UInt8) (al : Bool) : (rsr s t al).1.size ≤ 122 := by
  unfold rsr
  split
  · exact txt_size _
  · show (0 : Nat) ≤ 122; omega
theorem undo_parse0 : parse (chrs (⟨#[40, 48, 41]⟩ : ByteArray)) = some ([], [false]) := by rfl
theorem undo_none : hasB [] [false] = fun _ => false := by
  funext n
  rw [hasB_ring' (Nat.zero_le _)]
  simp [Nat.mod_one]
theorem undo_all {s t : List UInt8} (h : (smr s t).2 = true) (h2 : (rsr (chrs (smr s t).1) t true).2 = true) : bel s (chrs (rsr (chrs (smr s t).1) t true).1) = true := by
  obtain ⟨_, _, a1, a2, a3, a4⟩ := smr_ok h
  obtain ⟨_, _, b1, b2, b3, b4⟩ := rsr_ok h2
  obtain ⟨a, c, hp, _⟩ := smallB_ok (smr_small h).1
  have hb := txt_parse b1 b2 b4
  unfold bel
  rw [hp, b3, hb, txt_setf b1 b2 b4, a3, txt_setf a1 a2 a4]
  refine dec_true fun n hn => ?_
  unfold qs
  rw [dec_false (fun ⟨m, c1, c2⟩ => by rw [sumq_iff.2 ⟨n, m, rfl, hn, c1⟩] at c2; cases c2)]; rfl
theorem undo_some {s t : List UInt8} (h : (smr s t).2 = true) (h2 : (rsr (chrs (smr s t).1) t false).2 = true) (hne : sameS t (chrs (⟨#[40, 48, 41]⟩ : ByteArray)) = false) : bel s (chrs (rsr (chrs (smr s t).1) t false).1) = true := by
  obtain ⟨_, _, a1, a2, a3, a4⟩ := smr_ok h
  obtain ⟨_, _, b1, b2, b3, b4⟩ := rsr_ok h2
  obtain ⟨a, c, hp, _⟩ := smallB_ok (smr_small h).1
  obtain ⟨a', c', hp', hset', _⟩ := smallB_ok (smr_small h).2
  have hb := txt_parse b1 b2 b4
  obtain ⟨m, hm⟩ : ∃ m, setf t m = true := by
    refine Classical.byContradiction fun hno => ?_
    have : hasB a' c' = hasB [] [false] := by
      rw [undo_none]
      funext n
      cases hx : hasB a' c' n with
      | false => rfl
      | true => exact absurd ⟨n, by rw [hset']; exact hx⟩ hno
    rw [(sameS_some hp' undo_parse0).2 this] at hne
    cases hne
  unfold bel
  rw [hp, b3, hb, txt_setf b1 b2 b4, a3, txt_setf a1 a2 a4]
  refine dec_true fun n hn => ?_
  unfold qs
  rw [dec_true ⟨m, hm, by rw [sumq_iff.2 ⟨n, m, rfl, hn, hm⟩]; rfl⟩]; rfl
theorem lawRestUndo_ev (l : List Int) (h : ∀ x ∈ l, (Lit.int .u8 x).wf = true) : Ev (fun k => laws_FnRestUndo.f k l) true := by
  by_cases hl : (l.length : Int) > 1048576
  · exact ⟨0, fun k _ => by dsimp only; unfold laws_FnRestUndo.f; rw [if_pos hl]⟩
  · obtain ⟨s, t, hf, hf2, K1, h1⟩ := drawRestUndo_f l h
    dsimp only at h1
    have hz := hf.size
    have hz2 := hf2.size
    have hs : s.size ≤ 70368744177664 := by omega
    have ht : t.size ≤ 70368744177664 := by omega
    obtain ⟨K2, h2⟩ := ssumOf_f s t hs ht
    dsimp only at h2
    have h3 := sumOf_f s t hs ht
    have z1 := smr_sz (chrs s) (chrs t)
    have z2 := rsr_sz (chrs (smr (chrs s) (chrs t)).1) (chrs t) true
    have z3 := rsr_sz (chrs (smr (chrs s) (chrs t)).1) (chrs t) false
    obtain ⟨K5, h5⟩ := isetSame_f t (⟨#[40, 48, 41]⟩ : ByteArray) ht (by show (3 : Nat) ≤ _; omega)
    dsimp only at h5
    obtain ⟨K6, h6⟩ := setBelow_f s (rsr (chrs (smr (chrs s) (chrs t)).1) (chrs t) true).1 hs (by omega)
    dsimp only at h6
    obtain ⟨K7, h7⟩ := setBelow_f s (rsr (chrs (smr (chrs s) (chrs t)).1) (chrs t) false).1 hs (by omega)
    dsimp only at h7
    have main : ∀ k, K5 + K6 + K7 ≤ k → laws_FnRestUndo.j0 (k + 1) s t (smr (chrs s) (chrs t)).1 (smr (chrs s) (chrs t)).2 (smr (chrs s) (chrs t)).1 (smr (chrs s) (chrs t)).2 (!(smr (chrs s) (chrs t)).2) = some true := by
      intro k hk
      have h5 := h5 k (by omega)
      have h6 := h6 k (by omega)
      have h7 := h7 k (by omega)
      simp only [laws_FnRestUndo.j0]
      cases g1 : (smr (chrs s) (chrs t)).2 with
      | false => rfl
      | true =>
        rw [if_neg (by decide), restSome_f _ t (by omega) ht, Option.bind_some, restAll_f _ t (by omega) ht, Option.bind_some]
        have e1 := fun g => undo_all (s := chrs s) (t := chrs t) g1 g
        have e2 := fun g => undo_some (s := chrs s) (t := chrs t) g1 g
        cases g2 : (rsr (chrs (smr (chrs s) (chrs t)).1) (chrs t) true).2 with
        | true =>
          rw [e1 g2] at h6
          cases g3 : (rsr (chrs (smr (chrs s) (chrs t)).1) (chrs t) false).2 with
          | false => rw [if_neg (by decide), if_pos (by trivial), h6, Option.bind_some]
          | true =>
            rw [if_pos (by trivial), h5, Option.bind_some]
            cases g4 : sameS (chrs t) (chrs (⟨#[40, 48, 41]⟩ : ByteArray)) with
            | true => rw [if_pos (by trivial), if_pos (by trivial), h6, Option.bind_some]
            | false =>
              rw [e2 g3 g4] at h7
              rw [if_neg (by decide), h7, Option.bind_some, if_pos (by trivial), if_pos (by trivial), h6, Option.bind_some]
        | false =>
          cases g3 : (rsr (chrs (smr (chrs s) (chrs t)).1) (chrs t) false).2 with
          | false => rw [if_neg (by decide), if_neg (by decide)]
          | true =>
            rw [if_pos (by trivial), h5, Option.bind_some]
            cases g4 : sameS (chrs t) (chrs (⟨#[40, 48, 41]⟩ : ByteArray)) with
            | true => rw [if_pos (by trivial), if_neg (by decide)]
            | false =>
              rw [e2 g3 g4] at h7
              rw [if_neg (by decide), h7, Option.bind_some, if_pos (by trivial), if_neg (by decide)]
    refine ⟨K1 + K2 + K5 + K6 + K7 + 1, fun k hk => ?_⟩
    obtain ⟨k, rfl⟩ : ∃ j, k = j + 1 := ⟨k - 1, by omega⟩
    try dsimp only
    unfold laws_FnRestUndo.f
    rw [if_neg hl, h1 (k + 1) (by omega), Option.bind_some]
    try dsimp only
    rw [h3, Option.bind_some, h2 (k + 1) (by omega), Option.bind_some, if_pos (by trivial), if_neg (bne_no _)]
    exact main k (by omega)
theorem lawRestUndo_pure : laws_FnRestUndo.Pure := fun l _ _ h => (lawRestUndo_ev l h).rounds
end Go.Proofs.Ytaebonckcbhofaa.P

-- For every code the law FnRestUndo holds.
namespace Go.Proofs.Ytaebonckcbhofaa.Pure
theorem FnRestUndo : Go.Proofs.Ytaebonckcbhofaa.P.laws_FnRestUndo.Pure := Go.Proofs.Ytaebonckcbhofaa.P.lawRestUndo_pure
end Go.Proofs.Ytaebonckcbhofaa.Pure
