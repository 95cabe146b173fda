/- What these laws reach, joined by a program of this session: contracts (written by that program over the kit's print, or by hand) and plain lemmas. -/
import Derived.Test.YtpammnkboogceaaK1
import Derived.Test.YtpammnkboogceaaK2
import Derived.Test.YtpammnkboogceaaK3
-- impl.turns and tidy come to the tidy form.
namespace Go.Proofs.Ytpammnkboogceaa.P
open Go.RowKit Go.Proofs.YtpammnkboogceaaW.PrintWords Go.Proofs.YtpammnkboogceaaW.PrintLast Go.Proofs.YtpammnkboogceaaW.PrintMore
set_option linter.unusedVariables false
set_option linter.unusedSimpArgs false
theorem turns_l0 (r : List Bool) (d : Nat) (hd : 0 < d) (hdl : d ≤ r.length) (hl : r.length ≤ 70368744177664) : ∀ (m i : Nat), i ≤ r.length → r.length - i = m →
    (∀ j, j < i → r.getD j false = r.getD (j % d) false) → ∃ b, Ev (fun k => impl_turns.l0 k r d r.length i) b ∧ (b = true ↔ IsPer r d) := by
  intro m
  induction m with
  | zero =>
    intro i h1 h2 h3
    have e : i = r.length := by omega
    refine ⟨((r.length : Int) % (d : Int)) == 0, Ev.step (f := fun k => some (((r.length : Int) % (d : Int)) == 0)) (fun k => ?_) (Ev.now _), ?_⟩
    · simp only [impl_turns.l0]; rw [if_neg (by omega), if_neg (by omega)]
    · have hm : (r.length : Int) % (d : Int) = ((r.length % d : Nat) : Int) := rfl
      rw [beq_iff_eq, hm]
      constructor
      · intro h; exact IsPer.of_mod (by omega) hd (fun j hj => h3 j (by omega))
      · intro h; have := h.1; omega
  | succ m ih =>
    intro i h1 h2 h3
    have hmod : Int.tmod (i : Int) (d : Int) = ((i % d : Nat) : Int) := by rw [Int.tmod_eq_emod_of_nonneg (by omega)]; rfl
    have hml := Nat.mod_lt i hd
    have hw : wrap64 ((i : Int) + 1) = ((i + 1 : Nat) : Int) := by rw [w64 (by omega) (by omega)]; omega
    by_cases he : r.getD i false = r.getD (i % d) false
    · obtain ⟨b, hb, hbi⟩ := ih (i + 1) (by omega) (by omega) (fun j hj => by
        rcases Nat.lt_or_ge j i with h | h
        · exact h3 j h
        · have : j = i := by omega
          subst this; exact he)
      refine ⟨b, Ev.step (fun k => ?_) hb, hbi⟩
      simp only [impl_turns.l0]
      rw [if_pos (by omega), if_pos (by omega), if_pos (by omega), if_neg (by omega), hmod, if_pos (by omega), if_pos (by omega), rdOf_nat, rdOf_nat, if_neg (by rw [he]; simp), hw]
    · refine ⟨false, Ev.step (f := fun k => some false) (fun k => ?_) (Ev.now _), ?_⟩
      · simp only [impl_turns.l0]
        rw [if_pos (by omega), if_pos (by omega), if_pos (by omega), if_neg (by omega), hmod, if_pos (by omega), if_pos (by omega), rdOf_nat, rdOf_nat, if_pos (by rw [bne_iff_ne]; exact he)]
      · constructor
        · intro h; exact absurd h (by decide)
        · intro h; exact absurd (h.mod hd i (by omega)) he
theorem turns_f (r : List Bool) (d : Nat) (hd : 0 < d) (hdl : d ≤ r.length) (hl : r.length ≤ 70368744177664) : ∃ b, Ev (fun k => impl_turns.f k r d) b ∧ (b = true ↔ IsPer r d) := by
  obtain ⟨b, h, hb⟩ := turns_l0 r d hd hdl hl _ 0 (by omega) rfl (fun j hj => by omega)
  exact ⟨b, by simpa [impl_turns.f] using h, hb⟩
theorem clone_f (l : List Bool) (h : l.length ≤ 70368744177664) : slices_Clone_bool_bool.f l = some l := by unfold slices_Clone_bool_bool.f; rw [if_pos h]

theorem tidy_l1 : ∀ (n : Nat) (t r : List Bool), t.length = n → Prim r → t.length + r.length ≤ 70368744177664 → ∃ t' r', Ev (fun k => impl_set_tidy.l1 k r.length t r) (t', r') ∧ Tidy t r t' r' := by
  intro n
  induction n with
  | zero =>
    intro t r hn hp hl
    have ht : t = [] := List.eq_nil_of_length_eq_zero hn
    subst ht
    refine ⟨[], r, Ev.step (f := fun k => some (([] : List Bool), r)) (fun k => ?_) (Ev.now _), ⟨hp, .inl rfl⟩, fun _ => rfl, Nat.le_refl _, Nat.le_refl _⟩
    simp only [impl_set_tidy.l1]; rw [if_neg (by simp)]
  | succ n ih =>
    intro t r hn hp hl
    have hr := hp.1
    have hpos := List.length_pos_iff.2 hr
    have ht : t ≠ [] := by intro e; rw [e] at hn; simp at hn
    have w1 : wrap64 ((t.length : Int) - 1) = ((t.length - 1 : Nat) : Int) := by rw [w64 (by omega) (by omega)]; omega
    have w2 : wrap64 ((r.length : Int) - 1) = ((r.length - 1 : Nat) : Int) := by rw [w64 (by omega) (by omega)]; omega
    by_cases he : t.getD (t.length - 1) false = r.getD (r.length - 1) false
    · obtain ⟨t', r', hev, htd⟩ := ih (t.take (t.length - 1)) (rotR r) (by rw [List.length_take]; omega) (prim_rot hp) (by rw [rotR_length hr, List.length_take]; omega)
      rw [rotR_length hr] at hev
      refine ⟨t', r', Ev.step (fun k => ?_) hev, htd.canon, fun x => by rw [htd.has, rot_has ht hr he], by have := htd.tl; rw [List.length_take] at this; omega, by have := htd.rl; rw [rotR_length hr] at this; omega⟩
      simp only [impl_set_tidy.l1]
      rw [if_pos (by omega), w1, w2, if_pos (by omega), if_pos (by omega), if_pos (by omega), if_pos (by omega), rdOf_nat, rdOf_nat, if_pos (by rw [he]; exact beq_self_eq_true _), if_pos (by omega)]
      simp only [Option.bind_some]
      rw [if_pos (by omega)]
      simp only [Int.toNat_natCast]
      rw [if_pos (by simp; omega)]
      rfl
    · refine ⟨t, r, Ev.step (f := fun k => some (t, r)) (fun k => ?_) (Ev.now _), ⟨hp, .inr he⟩, fun _ => rfl, Nat.le_refl _, Nat.le_refl _⟩
      simp only [impl_set_tidy.l1]
      rw [if_pos (by omega), w1, w2, if_pos (by omega), if_pos (by omega), if_pos (by omega), if_pos (by omega), rdOf_nat, rdOf_nat, if_neg (by rw [beq_iff_eq]; exact he)]

theorem tidy_l0 (t r : List Bool) (hr : r ≠ []) (hl : t.length + r.length ≤ 70368744177664) : ∀ (m d : Nat), 0 < d → d ≤ r.length → r.length - d = m → (∀ d', 0 < d' → d' < d → ¬ IsPer r d') →
    ∃ t' r', Ev (fun k => impl_set_tidy.l0 k d t r) (t', r') ∧ Tidy t r t' r' := by
  have hpos := List.length_pos_iff.2 hr
  have hn : IsPer r r.length := ⟨Nat.mod_self _, fun i a b => by omega⟩
  intro m
  induction m with
  | zero =>
    intro d h0 h1 h2 h3
    have e : d = r.length := by omega
    obtain ⟨b, hb, hbi⟩ := turns_f r d h0 h1 (by omega)
    have hbt : b = true := hbi.2 (by rw [e]; exact hn)
    have hp : IsPer r d := hbi.1 hbt
    subst hbt
    have hlt : (r.take d).length = d := by rw [List.length_take]; omega
    obtain ⟨t', r', hev, htd⟩ := tidy_l1 _ t (r.take d) rfl (prim_take h0 h1 hp h3) (by omega)
    rw [hlt] at hev
    refine ⟨t', r', Ev.step (f := fun k => (impl_turns.f k r d).bind fun t161 => (if t161 = true then impl_set_tidy.l1 k d t (r.take d) else (impl_set_tidy.l0 k (wrap64 (d + 1)) t r))) (fun k => ?_) (Ev.bind hb (by simpa using hev)), htd.canon, fun x => by rw [htd.has, take_has hp h0 h1], htd.tl, by have := htd.rl; omega⟩
    simp only [impl_set_tidy.l0]
    congr 1; funext x
    rw [clone_f _ (by omega)]
    simp only [Option.bind_some, Int.toNat_natCast]
    cases x with
    | true => rw [if_pos rfl, if_pos rfl, if_pos (by omega), if_pos (by omega), clone_f _ (by rw [hlt]; omega)]; rfl
    | false => rw [if_neg (by decide), if_neg (by decide)]
  | succ m ih =>
    intro d h0 h1 h2 h3
    obtain ⟨b, hb, hbi⟩ := turns_f r d h0 h1 (by omega)
    have hw : wrap64 ((d : Int) + 1) = ((d + 1 : Nat) : Int) := by rw [w64 (by omega) (by omega)]; omega
    have hlt : (r.take d).length = d := by rw [List.length_take]; omega
    have st : ∀ k, impl_set_tidy.l0 (k + 1) d t r = (impl_turns.f k r d).bind fun t161 => (if t161 = true then impl_set_tidy.l1 k d t (r.take d) else (impl_set_tidy.l0 k ((d + 1 : Nat) : Int) t r)) := fun k => by
      simp only [impl_set_tidy.l0]
      congr 1; funext x
      rw [clone_f _ (by omega)]
      simp only [Option.bind_some, Int.toNat_natCast]
      cases x with
      | true => rw [if_pos rfl, if_pos rfl, if_pos (by omega), if_pos (by omega), clone_f _ (by rw [hlt]; omega)]; rfl
      | false => rw [if_neg (by decide), if_neg (by decide), hw]
    by_cases hp : IsPer r d
    · have hbt := hbi.2 hp
      subst hbt
      obtain ⟨t', r', hev, htd⟩ := tidy_l1 _ t (r.take d) rfl (prim_take h0 h1 hp h3) (by omega)
      rw [hlt] at hev
      exact ⟨t', r', Ev.step st (Ev.bind hb (by simpa using hev)), htd.canon, fun x => by rw [htd.has, take_has hp h0 h1], htd.tl, by have := htd.rl; omega⟩
    · have hbt : b = false := by cases b; rfl; exact absurd (hbi.1 rfl) hp
      subst hbt
      obtain ⟨t', r', hev, htd⟩ := ih (d + 1) (by omega) (by omega) (by omega) (fun d' a b => by
            rcases Nat.lt_or_ge d' d with h | h
            · exact h3 d' a h
            · have : d' = d := by omega
              subst this; exact hp)
      exact ⟨t', r', Ev.step st (Ev.bind hb (by simpa using hev)), htd⟩
theorem tidy_f (t r : List Bool) (hr : r ≠ []) (hl : t.length + r.length ≤ 70368744177664) : ∃ t' r', Ev (fun k => impl_set_tidy.f k t r) (t', r') ∧ Tidy t r t' r' := by
  have hpos := List.length_pos_iff.2 hr
  obtain ⟨t', r', h, htd⟩ := tidy_l0 t r hr hl _ 1 (by omega) (by omega) rfl (fun d a b => by omega)
  exact ⟨t', r', by simpa [impl_set_tidy.f] using h, htd⟩

theorem tidy_cn (t r : List Bool) (hr : r ≠ []) (hl : t.length + r.length ≤ 70368744177664) : Ev (fun k => impl_set_tidy.f k t r) (cn (hasB t r)) := by
  obtain ⟨t', r', h, ht⟩ := tidy_f t r hr hl
  rw [ht.cn]; exact h

end Go.Proofs.Ytpammnkboogceaa.P

-- impl.made and impl.single over a question that is answered: the tidy text of the set.
namespace Go.Proofs.Ytpammnkboogceaa.P
open Go.RowKit Go.Proofs.YtpammnkboogceaaW.PrintWords Go.Proofs.YtpammnkboogceaaW.PrintLast Go.Proofs.YtpammnkboogceaaW.PrintMore
set_option linter.unusedVariables false
set_option linter.unusedSimpArgs false

theorem made_calls (q : Nat → Bool) (m p : Nat) (hp : 0 < p) (hper : Per q m p) (hl : m + p ≤ 1000000) (g : Nat) (lb : Array Value) (w : World)
    (eg : ∀ args w, (callFunc g args).run Try.prog w = .ok (.enter g args) w)
    (hc : ∀ (W : World) (i : Nat), Below w.heap.size w W → i < m + p → Calls Try.prog g (#[.int .i64 i] ++ lb) W fun e w' => e = .returned (.bool (q i)) ∧ Below W.heap.size W w') :
    Calls Try.prog 40 #[.int .i64 m, .int .i64 p, .func (.func g) #[] lb] w fun e w' => e = .returned (.tuple #[.string (txt (cn q)).1, .bool (txt (cn q)).2]) ∧ Below w.heap.size w w' := by
  have hs := cn_spec hp hper
  have h1 := tidy_cn (mkT q m) (mkR q m p) (mkR_ne q hp) (by rw [mkT_length, mkR_length]; omega)
  rw [mk_has hp hper] at h1
  have h2 := text_f (cn q).1 (cn q).2 (by omega)
  obtain ⟨k, hk⟩ := (Ev.bind (f := fun k y => impl_set_text.f k y.1 y.2) h1 h2).rounds
  have := impl_made.calls k (mkT q m) (mkR q m p) (txt (cn q)).1 (txt (cn q)).2 g lb w eg (fun W i hW hi => ?_) (by rw [mkT_length, mkR_length]; omega) hk
  · rw [mkT_length, mkR_length] at this; exact this
  · rw [mkT_length, mkR_length] at hi
    rw [← mkT_add, mkT_get q hi]; exact hc W i hW hi

set_option maxHeartbeats 8000000 in
set_option maxRecDepth 100000 in
theorem single_q_calls (gh : Nat) (lbh : Array Value) (egh : ∀ args w, (callFunc gh args).run Try.prog w = .ok (.enter gh args) w) (b0 b1 : Nat) (v0 v1 : Value) (n : Nat) (r : Bool) (W : World)
    (h0 : W.cell? ⟨b0, 0, none⟩ = some (.func (.func gh) #[] lbh)) (h1 : W.cell? ⟨b1, 0, none⟩ = some v0) (h2 : W.cell? ⟨b1, 1, none⟩ = some v1)
    (hh : Calls Try.prog gh (#[.agg #[v0, v1], .int .i64 n] ++ lbh) W fun e w' => e = .returned (.bool r) ∧ Below W.heap.size W w') :
    Calls Try.prog 51 #[.int .i64 n, .pointer (some ⟨b0, 0, none⟩), .pointer (some ⟨b1, 0, none⟩)] W fun e w' => e = .returned (.bool r) ∧ Below W.heap.size W w' := by
  have hu := Try.underlying44
  have HH := Aside0.mk hh
  clear hh
  go_enter Try.func51, Try.ntmps51
  go_wp2_with (go_at_fn gh; refine HH.out.mono ?_; rintro e w' ⟨rfl, hb⟩)
  go_ret
  exact ⟨rfl, hb⟩

set_option maxHeartbeats 8000000 in
set_option maxRecDepth 100000 in
theorem single_calls (s : ByteArray) (hs : s.size ≤ 70368744177664) (may : Bool) (gh : Nat) (lbh : Array Value) (q : Nat → Bool) (w : World)
    (egh : ∀ args w, (callFunc gh args).run Try.prog w = .ok (.enter gh args) w)
    (hq : may = true → ∀ t r, parse (chrs s) = some (t, r) → Per q t.length r.length)
    (hh : may = true → ∀ t r, parse (chrs s) = some (t, r) → ∀ (W : World) (A0 : Option Addr) (c0 : Nat) (A1 : Option Addr) (c1 n : Nat), Below w.heap.size w W → Kd.C Kd.bool W A0 t.length t → t.length ≤ c0 → Kd.C Kd.bool W A1 r.length r → r.length ≤ c1 → n < t.length + r.length →
      Calls Try.prog gh (#[.agg #[.slice A0 t.length c0, .slice A1 r.length c1], .int .i64 n] ++ lbh) W fun e w' => e = .returned (.bool (q n)) ∧ Below W.heap.size W w') :
    Calls Try.prog 28 #[.string s, .bool may, .func (.func gh) #[] lbh] w fun e w' => e = .returned (.tuple #[.string (if (parse (chrs s)).isSome && may then txt (cn q) else (⟨#[]⟩, false)).1, .bool (if (parse (chrs s)).isSome && may then txt (cn q) else (⟨#[]⟩, false)).2]) ∧ Below w.heap.size w w' := by
  obtain ⟨x, y, hev, hxy⟩ := setOf_f s hs
  obtain ⟨k, hk⟩ := hev.rounds
  have hu := Try.underlying44
  have HH := Aside0.mk hh
  have HQ := Aside0.mk hq
  have HXY := Aside0.mk hxy
  have HK := Aside0.mk hk
  clear hh hq hxy hk hev
  cases hp : (parse (chrs s)).isSome with
  | false =>
    have hk := HK.out
    rw [hp] at hk
    have HK2 := Aside0.mk hk
    clear hp hk HK
    go_enter Try.func28, Try.ntmps28
    go_wp2_with (go_at_call 38; refine (impl_setOf.calls k s x y false _ HK2.out).mono ?_; rintro e w1 ⟨v0_, v1_, rfl, hR0, hR1, hb1⟩; obtain ⟨A0, n0, rfl, hn0, hC0⟩ := Kd.R_reads hR0; obtain ⟨A1, n1, rfl, hn1, hC1⟩ := Kd.R_reads hR1; clear hR0 hR1 hC0 hC1 hn0 hn1; have HB := Aside0.mk (below_step (below_alloc (Below.refl w.heap.size w) _) hb1); clear hb1)
    go_ret2
    refine ⟨rfl, ?_⟩
    repeat (first | exact HB.out | apply below_alloc | (refine below_set ?_ HB.out.size))
  | true =>
    obtain ⟨⟨a, b⟩, hpp⟩ := Option.isSome_iff_exists.1 hp
    obtain ⟨rfl, rfl⟩ := HXY.out a b hpp
    have hb := parse_some hpp
    have hk := HK.out
    rw [hp] at hk
    have HK2 := Aside0.mk hk
    have HL := Aside0.mk hb
    have HPP := Aside0.mk hpp
    clear hp hk HK HXY hpp hb
    cases may with
    | false =>
      go_enter Try.func28, Try.ntmps28
      go_wp2_with (go_at_call 38; refine (impl_setOf.calls k s x y true _ HK2.out).mono ?_; rintro e w1 ⟨v0_, v1_, rfl, hR0, hR1, hb1⟩; obtain ⟨A0, n0, rfl, hn0, hC0⟩ := Kd.R_reads hR0; obtain ⟨A1, n1, rfl, hn1, hC1⟩ := Kd.R_reads hR1; clear hR0 hR1 hC0 hC1 hn0 hn1; have HB := Aside0.mk (below_step (below_alloc (Below.refl w.heap.size w) _) hb1); clear hb1)
      go_ret2
      refine ⟨rfl, ?_⟩
      repeat (first | exact HB.out | apply below_alloc | (refine below_set ?_ HB.out.size))
    | true =>
      have eg : ∀ args w, (callFunc 51 args).run Try.prog w = .ok (.enter 51 args) w := enters_of Try.func51 (by kernel_rfl) rfl
      have EG := Aside0.mk eg
      have HH2 := Aside0.mk (HH.out rfl x y HPP.out)
      have HP := Aside0.mk (HQ.out rfl x y HPP.out)
      clear eg HH HQ HPP
      go_enter Try.func28, Try.ntmps28
      go_wp2_with (first
        | (go_at_call 38; refine (impl_setOf.calls k s x y true _ HK2.out).mono ?_; rintro e w1 ⟨v0_, v1_, rfl, hR0, hR1, hb1⟩; obtain ⟨A0, n0, rfl, hn0, hC0⟩ := Kd.R_reads hR0; obtain ⟨A1, n1, rfl, hn1, hC1⟩ := Kd.R_reads hR1; have C0 := Aside0.mk hC0; have C1 := Aside0.mk hC1; have N0 := Aside0.mk hn0; have N1 := Aside0.mk hn1; clear hR0 hR1 hC0 hC1 hn0 hn1; have HB := Aside0.mk (below_step (below_alloc (Below.refl w.heap.size w) _) hb1); have F0 := Aside0.mk ((hb1.cell (p := ⟨w.heap.size, 0, none⟩) (by simp)).trans (by simp : (w.alloc (.cells #[.func (.func gh) #[] lbh] _)).cell? ⟨w.heap.size, 0, none⟩ = some (.func (.func gh) #[] lbh))); have L0 := Aside0.mk (Nat.lt_of_lt_of_le (by simp) hb1.size : w.heap.size < w1.heap.size); clear hb1)
        | (go_at_call 40; refine (made_calls q x.length y.length (List.length_pos_iff.2 HL.out.2.2) HP.out (by have := HL.out; omega) 51 _ _ EG.out ?hc).mono ?_; (case hc =>
            intro W i hW hi
            have hBW := below_step (below_alloc (Below.refl w1.heap.size w1) _) hW
            exact single_q_calls gh lbh egh w.heap.size w1.heap.size _ _ i (q i) W ((hBW.cell (p := ⟨w.heap.size, 0, none⟩) L0.out).trans F0.out) ((hW.cell (p := ⟨w1.heap.size, 0, none⟩) (by simp)).trans (by simp)) ((hW.cell (p := ⟨w1.heap.size, 1, none⟩) (by simp)).trans (by simp)) (HH2.out W A0 n0 A1 n1 i (below_step HB.out hBW) (Kd.C_below C0.out hBW) N0.out (Kd.C_below C1.out hBW) N1.out hi)); rintro e w2 ⟨rfl, hb2⟩))
      go_ret2
      exact ⟨rfl, below_step (below_alloc HB.out _) hb2⟩
end Go.Proofs.Ytpammnkboogceaa.P

-- impl.MakeDown: the set, k less.
namespace Go.Proofs.Ytpammnkboogceaa.P
open Go.RowKit Go.Proofs.YtpammnkboogceaaW.PrintWords Go.Proofs.YtpammnkboogceaaW.PrintLast Go.Proofs.YtpammnkboogceaaW.PrintMore
set_option linter.unusedVariables false
set_option linter.unusedSimpArgs false

/-- What impl.MakeDown answers. -/
noncomputable def dwn (s : List UInt8) (a : Int) : ByteArray × Bool := if (parse s).isSome && decide (0 ≤ a ∧ a ≤ 1000) then txt (cn (shf (setf s) a.toNat)) else (⟨#[]⟩, false)
noncomputable def impl_MakeDown.f (s : ByteArray) (a : Int) : Option (ByteArray × Bool) := if s.size ≤ 70368744177664 then some (dwn (chrs s) a) else none

theorem dwn_out {s : List UInt8} {n : Int} (h : ¬ (0 ≤ n ∧ n ≤ 1000)) : dwn s n = (⟨#[]⟩, false) := by
  unfold dwn; rw [decide_eq_false h, Bool.and_false]; rfl
theorem dwn_none {s : List UInt8} (h : parse s = none) (n : Int) : dwn s n = (⟨#[]⟩, false) := by
  unfold dwn; rw [h]; rfl
theorem makeDown_f (s : ByteArray) (hs : s.size ≤ 70368744177664) (n : Int) : impl_MakeDown.f s n = some (dwn (chrs s) n) := by unfold impl_MakeDown.f; rw [if_pos hs]

set_option maxHeartbeats 8000000 in
set_option maxRecDepth 100000 in
theorem down_q_calls (t r : List Bool) (hr : r ≠ []) (hl : t.length ≤ 60 ∧ r.length ≤ 60) (A0 : Option Addr) (c0 : Nat) (A1 : Option Addr) (c1 n k b : Nat) (hn : n ≤ 1000000) (hk : k ≤ 1000000) (W : World)
    (hC0 : Kd.C Kd.bool W A0 t.length t) (h0 : t.length ≤ c0) (hC1 : Kd.C Kd.bool W A1 r.length r) (h1 : r.length ≤ c1) (hb : W.cell? ⟨b, 0, none⟩ = some (.int .i64 (k : Int))) :
    Calls Try.prog 32 #[.agg #[.slice A0 t.length c0, .slice A1 r.length c1], .int .i64 n, .pointer (some ⟨b, 0, none⟩)] W fun e w' => e = .returned (.bool (shf (hasB t r) k n)) ∧ Below W.heap.size W w' := by
  have hs : IntKind.i64.wrap ((n : Int) + (k : Int)) = ((n + k : Nat) : Int) := by rw [IntKind.wrap_i64]; omega
  have HC := fun (o : Obj) => Aside0.mk (impl_set_has.calls A0 c0 t A1 c1 r ((n + k : Nat) : Int) (hasB t r (n + k)) (W.alloc o) (Kd.C_alloc hC0 o) h0 (Kd.C_alloc hC1 o) h1 (ihas_f t r hr (by omega) (n + k) (by omega)))
  have hb2 : ∀ o, (W.alloc o).cell? ⟨b, 0, none⟩ = some (.int .i64 (k : Int)) := fun o => Lib.cell?_alloc_some _ hb
  have hu := Try.underlying44
  clear hC0 hC1 h0 h1 hl hr hb
  go_enter Try.func32, Try.ntmps32
  go_wp2_with (go_at_call 31; refine (HC _).out.mono ?_; rintro e w' ⟨rfl, hb⟩)
  go_ret
  exact ⟨rfl, below_step (below_alloc (Below.refl _ _) _) hb⟩

set_option maxHeartbeats 8000000 in
set_option maxRecDepth 100000 in
theorem impl_MakeDown.calls (a0 : ByteArray) (a1 : Int) (r1 : ByteArray) (r2 : Bool) (w : World) (h : impl_MakeDown.f a0 a1 = some (r1, r2)) :
    Calls Try.prog 12 #[.string a0, .int .i64 a1] w fun e w' => e = .returned (.tuple #[.string r1, .bool r2]) ∧ Below w.heap.size w w' := by
  unfold impl_MakeDown.f at h
  split at h
  · rename_i hs
    simp only [Option.some.injEq] at h
    have hin := in_f a1 0 1000
    obtain ⟨bm, hbm⟩ : ∃ bm, decide (0 ≤ a1 ∧ a1 ≤ 1000) = bm := ⟨_, rfl⟩
    have eg : ∀ args w, (callFunc 32 args).run Try.prog w = .ok (.enter 32 args) w := enters_of Try.func32 (by kernel_rfl) rfl
    have hx : ∀ w1 : World, w1.cell? ⟨w.heap.size, 0, none⟩ = some (.int .i64 a1) → w.heap.size < w1.heap.size → Calls Try.prog 28 #[.string a0, .bool bm, .func (.func 32) #[] #[.pointer (some ⟨w.heap.size, 0, none⟩)]] w1 fun e w' => e = .returned (.tuple #[.string r1, .bool r2]) ∧ Below w1.heap.size w1 w' := by
      intro w1 hc hlt
      have := single_calls a0 hs (decide (0 ≤ a1 ∧ a1 ≤ 1000)) 32 #[.pointer (some ⟨w.heap.size, 0, none⟩)] (shf (setf (chrs a0)) a1.toNat) w1 eg
        (fun _ t r hp => by rw [setf_some hp]; exact (shf_per (hasB_per t r) _).mono (by omega))
        (fun hm t r hp W A0 c0 A1 c1 n hW hC0 h0 hC1 h1 hn => by
          have hb := parse_some hp
          have hm := of_decide_eq_true hm
          obtain ⟨k, rfl⟩ := Int.eq_ofNat_of_zero_le hm.1
          rw [setf_some hp, Int.toNat_natCast]
          exact down_q_calls t r hb.2.2 ⟨hb.1, hb.2.1⟩ A0 c0 A1 c1 n k w.heap.size (by omega) (by omega) W hC0 h0 hC1 h1 ((hW.cell (p := ⟨w.heap.size, 0, none⟩) hlt).trans hc))
      unfold dwn at h
      rw [h, hbm] at this
      exact this
    rw [hbm] at hin
    clear hbm
    have HX := Aside0.mk hx
    have HI := fun w => Aside0.mk (impl_in.calls a1 0 1000 _ w hin)
    clear hx h hs hin eg
    go_enter Try.func12, Try.ntmps12
    go_wp2_with (first
      | (go_at_call 29; refine (HI _).out.mono ?_; rintro e w1 ⟨rfl, hd⟩; have hb := drawn0_below hd; have c1 := (hb.cell (p := ⟨w.heap.size, 0, none⟩) (by simp)).trans (by simp : (w.alloc (.cells #[.int .i64 a1] _)).cell? ⟨w.heap.size, 0, none⟩ = some (.int .i64 a1)); have hl1 : w.heap.size < w1.heap.size := Nat.lt_of_lt_of_le (by simp) hb.size; have HB := Aside0.mk (below_step (below_alloc (Below.refl w.heap.size w) _) hb); clear hd hb)
      | (go_at_call 28; refine (HX.out _ c1 hl1).mono ?_; rintro e w2 ⟨rfl, hb2⟩))
    go_ret2
    exact ⟨rfl, below_step HB.out hb2⟩
  · cases h
end Go.Proofs.Ytpammnkboogceaa.P

namespace Go.Proofs.Ytpammnkboogceaa.P
open Go.RowKit Go.Proofs.YtpammnkboogceaaW.PrintWords Go.Proofs.YtpammnkboogceaaW.PrintLast Go.Proofs.YtpammnkboogceaaW.PrintMore
attribute [local go_sem] max2_int min2_int max_two min_two max_three min_three max_four min_four   -- for this text's walks alone
set_option linter.unusedVariables false
set_option linter.unusedSimpArgs false

/-! ### laws_FnExactMakeDown: function 4 -/
noncomputable def laws_FnExactMakeDown.f (k : Nat) (a0 : ByteArray) (a1 : Int) : Option (Bool) := if (a0.size : Int) > 1048576 then (some true) else ((spec_MakeDown.f k a0 a1).bind fun bt311 => ((impl_MakeDown.f a0 a1).bind fun bt313 => (if bt313.1.toList = bt311.1.toList then (if (bt313.2 != bt311.2) = true then (some false) else (some true)) else (some false))))
theorem laws_FnExactMakeDown.mono : ∀ a0 a1 k, LeO (laws_FnExactMakeDown.f k a0 a1) (laws_FnExactMakeDown.f (k + 1) a0 a1) := by
  intro a0 a1 k
  unfold laws_FnExactMakeDown.f
  repeat' first
      | (with_reducible exact spec_MakeDown.mono _ _ _)
      | (with_reducible exact LeO.refl _)
      | (with_reducible exact LeO.none _)
      | (with_reducible refine LeO.ite ?_ ?_)
      | (with_reducible refine LeO.bind ?_ (fun _ => ?_))
      | exact spec_MakeDown.mono _ _ _
      | exact LeO.none _
      | refine LeO.ite ?_ ?_
      | refine LeO.bind ?_ (fun _ => ?_)
set_option maxHeartbeats 8000000 in
set_option maxRecDepth 100000 in
theorem laws_FnExactMakeDown.calls (k : Nat) (a0 : ByteArray) (a1 : Int) (r : Bool) (w : World) (h : laws_FnExactMakeDown.f k a0 a1 = some r) :
    Calls Try.prog 4 #[.string a0, .int .i64 a1] w fun e w' => e = .returned (.bool r) ∧ Below w.heap.size w w' := by
  have HB := Aside0.mk (Below.refl w.heap.size w)
  have H : (if (a0.size : Int) > 1048576 then (some true) else ((spec_MakeDown.f k a0 a1).bind fun bt311 => ((impl_MakeDown.f a0 a1).bind fun bt313 => (if bt313.1.toList = bt311.1.toList then (if (bt313.2 != bt311.2) = true then (some false) else (some true)) else (some false))))) = some r := h
  clear h
  by_cases c3 : (a0.size : Int) > 1048576
  · rw [if_pos c3] at H
    have c3b0 : decide (1048576 < (a0.size : Int)) = true := decide_eq_true c3
    have c3b1 : decide (1048576 < a0.size) = true := decide_eq_true (by omega)
    clear c3
    obtain rfl := Option.some.inj H
    go_enter Try.func4, Try.ntmps4
    go_wp2
    go_ret
    exact ⟨by first | rfl | (simp [errW_none, errW_some] <;> rfl) | (simp [*, errW_none, errW_some] <;> rfl) | (simp [errW_none, errW_some]; exact ⟨rfl, rfl⟩), by repeat (first | (with_reducible first | exact HB.out | apply below_alloc | apply pw_below_drewN | apply below_drew1) | exact HB.out)⟩
  · rw [if_neg c3] at H
    have c3b0 : decide (1048576 < (a0.size : Int)) = false := decide_eq_false c3
    have c3b1 : decide (1048576 < a0.size) = false := decide_eq_false (by omega)
    clear c3
    replace H := Option.bind_eq_some_iff.mp H
    obtain ⟨⟨t311, t312⟩, A40, H⟩ := H
    replace H : ((impl_MakeDown.f a0 a1).bind fun bt313 => (if bt313.1.toList = t311.toList then (if (bt313.2 != t312) = true then (some false) else (some true)) else (some false))) = some r := H
    have A4 := Aside0.mk A40
    clear A40
    replace H := Option.bind_eq_some_iff.mp H
    obtain ⟨⟨t313, t314⟩, A50, H⟩ := H
    replace H : (if t313.toList = t311.toList then (if (t314 != t312) = true then (some false) else (some true)) else (some false)) = some r := H
    have A5 := Aside0.mk A50
    clear A50
    by_cases c6 : t313.toList = t311.toList
    · rw [if_pos c6] at H
      have c6b0 : (t313.toList == t311.toList) = true := beq_iff_eq.mpr c6
      have c6b1 : (t313.toList != t311.toList) = false := bne_eq_false_iff_eq.mpr c6
      clear c6
      by_cases c7 : (t314 != t312) = true
      · rw [if_pos c7] at H
        have c7b0 : (t314 != t312) = true := c7
        (try (have c7b1 : decide (t314 = t312) = false := by simpa using c7))
        (try (have c7b2 : (t314 == t312) = false := by simpa using c7))
        (try (have c7b3 : ¬ (t314 = t312) := by simpa using c7))
        clear c7
        obtain rfl := Option.some.inj H
        go_enter Try.func4, Try.ntmps4
        go_wp2_with (first | ((with_reducible refine gate_callee (f := 11) rfl ?_); refine goesL_ (some 15) rfl rfl Try.func11 (by kernel_rfl) rfl #[.string a0, .int .i64 a1] rfl (by (try simp only [List.map_toArray, List.map_cons, List.map_nil]); first | done | rfl | (simp only [List.length_drop, List.length_take]; rfl)) ?_; (with_reducible refine (spec_MakeDown.calls k a0 a1 t311 t312 _ A4.out).mono ?_); rintro e w8 ⟨rfl, hb⟩; refine ⟨_, rfl, ?_⟩; have n0_ := Aside0.mk (below_step (by repeat (first | (with_reducible first | exact HB.out | apply below_alloc | apply pw_below_drewN | apply below_drew1) | exact HB.out)) hb); clear HB; have HB := n0_; clear n0_; (try clear hb); (try clear hb2); (try clear hk); (try clear hi)) | ((with_reducible refine gate_callee (f := 12) rfl ?_); refine goesL_ (some 21) rfl rfl Try.func12 (by kernel_rfl) rfl #[.string a0, .int .i64 a1] rfl (by (try simp only [List.map_toArray, List.map_cons, List.map_nil]); first | done | rfl | (simp only [List.length_drop, List.length_take]; rfl)) ?_; (with_reducible refine (impl_MakeDown.calls a0 a1 t313 t314 _ A5.out).mono ?_); rintro e w9 ⟨rfl, hb⟩; refine ⟨_, rfl, ?_⟩; have n0_ := Aside0.mk (below_step (by repeat (first | (with_reducible first | exact HB.out | apply below_alloc | apply pw_below_drewN | apply below_drew1) | exact HB.out)) hb); clear HB; have HB := n0_; clear n0_; (try clear hb); (try clear hb2); (try clear hk); (try clear hi)))
        go_ret
        exact ⟨by first | rfl | (simp [errW_none, errW_some] <;> rfl) | (simp [*, errW_none, errW_some] <;> rfl) | (simp [errW_none, errW_some]; exact ⟨rfl, rfl⟩), by repeat (first | (with_reducible first | exact HB.out | apply below_alloc | apply pw_below_drewN | apply below_drew1) | exact HB.out)⟩
      · rw [if_neg c7] at H
        have c7b0 : (t314 != t312) = false := by simpa using c7
        (try (have c7b1 : decide (t314 = t312) = true := by simpa using c7))
        (try (have c7b2 : (t314 == t312) = true := by simpa using c7))
        clear c7
        obtain rfl := Option.some.inj H
        go_enter Try.func4, Try.ntmps4
        go_wp2_with (first | ((with_reducible refine gate_callee (f := 11) rfl ?_); refine goesL_ (some 15) rfl rfl Try.func11 (by kernel_rfl) rfl #[.string a0, .int .i64 a1] rfl (by (try simp only [List.map_toArray, List.map_cons, List.map_nil]); first | done | rfl | (simp only [List.length_drop, List.length_take]; rfl)) ?_; (with_reducible refine (spec_MakeDown.calls k a0 a1 t311 t312 _ A4.out).mono ?_); rintro e w10 ⟨rfl, hb⟩; refine ⟨_, rfl, ?_⟩; have n0_ := Aside0.mk (below_step (by repeat (first | (with_reducible first | exact HB.out | apply below_alloc | apply pw_below_drewN | apply below_drew1) | exact HB.out)) hb); clear HB; have HB := n0_; clear n0_; (try clear hb); (try clear hb2); (try clear hk); (try clear hi)) | ((with_reducible refine gate_callee (f := 12) rfl ?_); refine goesL_ (some 21) rfl rfl Try.func12 (by kernel_rfl) rfl #[.string a0, .int .i64 a1] rfl (by (try simp only [List.map_toArray, List.map_cons, List.map_nil]); first | done | rfl | (simp only [List.length_drop, List.length_take]; rfl)) ?_; (with_reducible refine (impl_MakeDown.calls a0 a1 t313 t314 _ A5.out).mono ?_); rintro e w11 ⟨rfl, hb⟩; refine ⟨_, rfl, ?_⟩; have n0_ := Aside0.mk (below_step (by repeat (first | (with_reducible first | exact HB.out | apply below_alloc | apply pw_below_drewN | apply below_drew1) | exact HB.out)) hb); clear HB; have HB := n0_; clear n0_; (try clear hb); (try clear hb2); (try clear hk); (try clear hi)))
        go_ret
        exact ⟨by first | rfl | (simp [errW_none, errW_some] <;> rfl) | (simp [*, errW_none, errW_some] <;> rfl) | (simp [errW_none, errW_some]; exact ⟨rfl, rfl⟩), by repeat (first | (with_reducible first | exact HB.out | apply below_alloc | apply pw_below_drewN | apply below_drew1) | exact HB.out)⟩
    · rw [if_neg c6] at H
      have c6b0 : (t313.toList == t311.toList) = false := beq_eq_false_iff_ne.mpr c6
      have c6b1 : (t313.toList != t311.toList) = true := bne_iff_ne.mpr c6
      obtain rfl := Option.some.inj H
      go_enter Try.func4, Try.ntmps4
      go_wp2_with (first | ((with_reducible refine gate_callee (f := 11) rfl ?_); refine goesL_ (some 15) rfl rfl Try.func11 (by kernel_rfl) rfl #[.string a0, .int .i64 a1] rfl (by (try simp only [List.map_toArray, List.map_cons, List.map_nil]); first | done | rfl | (simp only [List.length_drop, List.length_take]; rfl)) ?_; (with_reducible refine (spec_MakeDown.calls k a0 a1 t311 t312 _ A4.out).mono ?_); rintro e w12 ⟨rfl, hb⟩; refine ⟨_, rfl, ?_⟩; have n0_ := Aside0.mk (below_step (by repeat (first | (with_reducible first | exact HB.out | apply below_alloc | apply pw_below_drewN | apply below_drew1) | exact HB.out)) hb); clear HB; have HB := n0_; clear n0_; (try clear hb); (try clear hb2); (try clear hk); (try clear hi)) | ((with_reducible refine gate_callee (f := 12) rfl ?_); refine goesL_ (some 21) rfl rfl Try.func12 (by kernel_rfl) rfl #[.string a0, .int .i64 a1] rfl (by (try simp only [List.map_toArray, List.map_cons, List.map_nil]); first | done | rfl | (simp only [List.length_drop, List.length_take]; rfl)) ?_; (with_reducible refine (impl_MakeDown.calls a0 a1 t313 t314 _ A5.out).mono ?_); rintro e w13 ⟨rfl, hb⟩; refine ⟨_, rfl, ?_⟩; have n0_ := Aside0.mk (below_step (by repeat (first | (with_reducible first | exact HB.out | apply below_alloc | apply pw_below_drewN | apply below_drew1) | exact HB.out)) hb); clear HB; have HB := n0_; clear n0_; (try clear hb); (try clear hb2); (try clear hk); (try clear hi)))
      go_ret
      exact ⟨by first | rfl | (simp [errW_none, errW_some] <;> rfl) | (simp [*, errW_none, errW_some] <;> rfl) | (simp [errW_none, errW_some]; exact ⟨rfl, rfl⟩), by repeat (first | (with_reducible first | exact HB.out | apply below_alloc | apply pw_below_drewN | apply below_drew1) | exact HB.out)⟩

/-- THE ONE PURE STATEMENT of laws_FnExactMakeDown: yours. -/
noncomputable def laws_FnExactMakeDown.Pure : Prop := ∀ (a0 : ByteArray) (a1 : Int), a0.size ≤ 140737488351232 → (Lit.int .i64 a1).wf = true → ∃ k, laws_FnExactMakeDown.f k a0 a1 = some true
theorem laws_FnExactMakeDown.walk (P : laws_FnExactMakeDown.Pure) (a0 : ByteArray) (a1 : Int) (w : World) (w0 : a0.size ≤ 140737488351232) (w1 : (Lit.int .i64 a1).wf = true) :
    Calls Try.prog 4 #[.string a0, .int .i64 a1] w fun e w' => e = .returned (.bool true) ∧ Below w.heap.size w w' := by
  obtain ⟨k, h⟩ := P a0 a1 w0 w1
  refine (laws_FnExactMakeDown.calls k a0 a1 true w h).mono ?_
  rintro e w' ⟨rfl, hd⟩
  exact ⟨rfl, hd⟩

end Go.Proofs.Ytpammnkboogceaa.P

-- spec.l1Write writes the text of a tail and a ring.
namespace Go.Proofs.Ytpammnkboogceaa.P
open Go.RowKit Go.Proofs.YtpammnkboogceaaW.PrintWords Go.Proofs.YtpammnkboogceaaW.PrintLast Go.Proofs.YtpammnkboogceaaW.PrintMore
set_option linter.unusedVariables false
set_option linter.unusedSimpArgs false
theorem write_byte (b : Bool) : (spec_l1Bit.f b) = some (if b then 1 else 0) := by cases b <;> rfl
theorem bt_sgn (b : Bool) : bt (⟨#[48, 49]⟩ : ByteArray) (if b then 1 else 0) = sgnI b := by cases b <;> decide
theorem write_l1 (t r : List Bool) (hr : r.length ≤ 1000000) : ∀ (d i : Nat) (acc : List Int), i ≤ r.length → r.length - i = d → acc.length ≤ 4000000 + i →
    Ev (fun k => spec_l1Write.l1 k acc i t r) (strOfNums (acc ++ (r.drop i).map sgnI ++ [41])) := by
  intro d
  induction d with
  | zero =>
    intro i acc hi hd ha
    have : r.drop i = [] := by rw [List.drop_eq_nil_iff]; omega
    rw [this]
    refine Ev.step (f := fun k => some (strOfNums (acc ++ [41]))) (fun k => ?_) (by simpa using Ev.now _)
    simp only [spec_l1Write.l1]; rw [if_neg (by omega), if_pos (by omega)]
  | succ d ih =>
    intro i acc hi hd ha
    have hw : wrap64 ((i : Int) + 1) = ((i + 1 : Nat) : Int) := by rw [w64 (by omega) (by omega)]; omega
    refine Ev.step (f := fun k => spec_l1Write.l1 k (acc ++ [sgnI (r.getD i false)]) ((i + 1 : Nat) : Int) t r) (fun k => ?_) ?_
    · simp only [spec_l1Write.l1]
      rw [if_pos (by omega), if_pos (by omega), rdOf_nat, write_byte]
      simp only [Option.bind_some]
      rw [if_pos (by split <;> decide), if_pos (by split <;> decide), if_pos (by omega), bt_sgn, hw]
    · have := ih (i + 1) (acc ++ [sgnI (r.getD i false)]) (by omega) (by omega) (by simp; omega)
      rw [drop_getD (show i < r.length by omega)]
      simpa using this
theorem write_l0 (t r : List Bool) (ht : t.length ≤ 1000000) (hr : r.length ≤ 1000000) : ∀ (d i : Nat) (acc : List Int), i ≤ t.length → t.length - i = d → acc.length ≤ i →
    Ev (fun k => spec_l1Write.l0 k acc i t r) (strOfNums (acc ++ (t.drop i).map sgnI ++ [40] ++ r.map sgnI ++ [41])) := by
  intro d
  induction d with
  | zero =>
    intro i acc hi hd ha
    have : t.drop i = [] := by rw [List.drop_eq_nil_iff]; omega
    rw [this]
    have h := write_l1 t r hr r.length 0 (acc ++ [40]) (by omega) (by omega) (by simp; omega)
    refine Ev.step (f := fun k => spec_l1Write.l1 k (acc ++ [40]) 0 t r) (fun k => ?_) (by simpa using h)
    simp only [spec_l1Write.l0]; rw [if_neg (by omega), if_pos (by omega)]
  | succ d ih =>
    intro i acc hi hd ha
    have hw : wrap64 ((i : Int) + 1) = ((i + 1 : Nat) : Int) := by rw [w64 (by omega) (by omega)]; omega
    refine Ev.step (f := fun k => spec_l1Write.l0 k (acc ++ [sgnI (t.getD i false)]) ((i + 1 : Nat) : Int) t r) (fun k => ?_) ?_
    · simp only [spec_l1Write.l0]
      rw [if_pos (by omega), if_pos (by omega), rdOf_nat, write_byte]
      simp only [Option.bind_some]
      rw [if_pos (by split <;> decide), if_pos (by split <;> decide), if_pos (by omega), bt_sgn, hw]
    · have := ih (i + 1) (acc ++ [sgnI (t.getD i false)]) (by omega) (by omega) (by simp; omega)
      rw [drop_getD (show i < t.length by omega)]
      simpa using this
theorem write_f (t r : List Bool) (ht : t.length ≤ 1000000) (hr : r.length ≤ 1000000) : Ev (fun k => spec_l1Write.f k t r) (textOf t r) := by
  have := write_l0 t r ht hr t.length 0 [] (by omega) (by omega) (by simp)
  have e : strOfNums (t.map sgnI ++ [40] ++ r.map sgnI ++ [41]) = textOf t r := by
    simp only [strOfNums, textOf, List.map_append, List.map_map]
    have : (fun n : Int => UInt8.ofNat n.toNat) ∘ sgnI = sgn := by funext b; cases b <;> rfl
    rw [this]; rfl
  rw [← e]
  simpa [spec_l1Write.f] using this


end Go.Proofs.Ytpammnkboogceaa.P

-- spec.l1Done writes the tidy text, if it is not too long.
namespace Go.Proofs.Ytpammnkboogceaa.P
open Go.RowKit Go.Proofs.YtpammnkboogceaaW.PrintWords Go.Proofs.YtpammnkboogceaaW.PrintLast Go.Proofs.YtpammnkboogceaaW.PrintMore
set_option linter.unusedVariables false
set_option linter.unusedSimpArgs false

theorem done_f (t r : List Bool) (hr : r ≠ []) (hl : t.length + r.length ≤ 4000) : Ev (fun k => spec_l1Done.f k t r) (txt (cn (hasB t r))) := by
  have ht := cn_tidy (t := t) hr
  have h1 := ht.tl
  have h2 := ht.rl
  refine Ev.congr (fun k => rfl) (Ev.bind (less_cn t r hr (by omega)) ?_)
  unfold txt
  by_cases ha : (cn (hasB t r)).1.length ≤ 60
  · simp only [if_neg (show ¬ (((cn (hasB t r)).1.length : Int) > 60) by omega)]
    by_cases hb : (cn (hasB t r)).2.length ≤ 60
    · simp only [if_neg (show ¬ (((cn (hasB t r)).2.length : Int) > 60) by omega)]
      rw [if_pos ⟨ha, hb⟩]
      exact Ev.bind (write_f _ _ (by omega) (by omega)) (Ev.now _)
    · simp only [if_pos (show (((cn (hasB t r)).2.length : Int) > 60) by omega)]
      rw [if_neg (fun h => hb h.2)]; exact Ev.now _
  · simp only [if_pos (show (((cn (hasB t r)).1.length : Int) > 60) by omega)]
    rw [if_neg (fun h => ha h.1)]; exact Ev.now _

end Go.Proofs.Ytpammnkboogceaa.P

-- spec.l2Fill: a set out of marks.
namespace Go.Proofs.Ytpammnkboogceaa.P
open Go.RowKit Go.Proofs.YtpammnkboogceaaW.PrintWords Go.Proofs.YtpammnkboogceaaW.PrintLast Go.Proofs.YtpammnkboogceaaW.PrintMore
set_option linter.unusedVariables false
set_option linter.unusedSimpArgs false

theorem done_mk {q : Nat → Bool} {m p : Nat} (hp : 0 < p) (h : Per q m p) (hl : m + p ≤ 4000) : Ev (fun k => spec_l1Done.f k (mkT q m) (mkR q m p)) (txt (cn q)) := by
  have := done_f (mkT q m) (mkR q m p) (mkR_ne q hp) (by rw [mkT_length, mkR_length]; omega)
  rw [mk_has hp h] at this; exact this
theorem fill_f {q : Nat → Bool} {m p : Nat} (hp : 0 < p) (h : Per q m p) (hl : m + p ≤ 4000) : Ev (fun k => spec_l2Fill.f k (mkT q (m + p)) (m : Int)) (txt (cn q)) := by
  refine Ev.congr (f := fun k => (spec_l1Done.f k (mkT q m) (mkR q m p)).bind fun bt203 => (some (bt203.1, bt203.2))) (fun k => ?_) (Ev.bind (done_mk hp h hl) (Ev.now _))
  unfold spec_l2Fill.f
  rw [if_pos (by omega), if_pos (by rw [mkT_length]; omega), Int.toNat_natCast, mkT_take, mkT_drop]

end Go.Proofs.Ytpammnkboogceaa.P

-- spec.MakeDown reads further on.
namespace Go.Proofs.Ytpammnkboogceaa.P
open Go.RowKit Go.Proofs.YtpammnkboogceaaW.PrintWords Go.Proofs.YtpammnkboogceaaW.PrintLast Go.Proofs.YtpammnkboogceaaW.PrintMore
set_option linter.unusedVariables false
set_option linter.unusedSimpArgs false

theorem smakeDown_l0 (a b : List Bool) (hb : b ≠ []) (ha : a.length ≤ 60) (hbl : b.length ≤ 60) (n : Nat) (hn : n ≤ 1000) : ∀ (d x : Nat), x ≤ (a.length - n) + b.length → (a.length - n) + b.length - x = d →
    Ev (fun k => spec_MakeDown.l0 k n (mkT (shf (hasB a b) n) x) ((a.length - n : Nat) : Int) x a b) (txt (cn (shf (hasB a b) n))) := by
  have hpos := List.length_pos_iff.2 hb
  have hper := shf_per (hasB_per a b) n
  have hw : wrap64 (((a.length - n : Nat) : Int) + (b.length : Int)) = (((a.length - n) + b.length : Nat) : Int) := wadd (by omega)
  intro d
  induction d with
  | zero =>
    intro x h1 h2
    have e : x = (a.length - n) + b.length := by omega
    subst e
    refine Ev.step (f := fun k => (spec_l2Fill.f k (mkT (shf (hasB a b) n) ((a.length - n) + b.length)) ((a.length - n : Nat) : Int)).bind fun bt309 => (some (bt309.1, bt309.2))) (fun k => ?_) (Ev.bind (fill_f hpos hper (by omega)) (Ev.now _))
    simp only [spec_MakeDown.l0]
    rw [hw, if_neg (by omega)]
  | succ d ih =>
    intro x h1 h2
    refine Ev.step (fun k => ?_) (ih (x + 1) (by omega) (by omega))
    simp only [spec_MakeDown.l0]
    rw [hw, if_pos (by omega), wadd (by omega), shas_f a b hb (by omega) _ (by omega)]
    simp only [Option.bind_some]
    rw [if_pos (by rw [mkT_length]; omega), wsucc (by omega), mkT_succ]; rfl
theorem smakeDown_f (s : ByteArray) (hs : s.size ≤ 70368744177664) (n : Int) : Ev (fun k => spec_MakeDown.f k s n) (dwn (chrs s) n) := by
  have out : ∀ a b, Ev (fun k => spec_MakeDown.j0 k n true a b) ((⟨#[]⟩ : ByteArray), false) := fun a b => by
    refine Ev.step (f := fun k => some ((⟨#[]⟩ : ByteArray), false)) (fun k => ?_) (Ev.now _)
    simp only [spec_MakeDown.j0]; rfl
  refine Ev.congr (fun k => rfl) (Ev.bind (read_f s hs) ?_)
  unfold parsed
  cases h : parse (chrs s) with
  | none => rw [dwn_none h]; simp only [Bool.false_eq_true, if_false]; exact out _ _
  | some ab =>
    have hb := parse_some (a := ab.1) (b := ab.2) h
    simp only [if_true, l6in_f, Option.bind_some]
    by_cases hn : 0 ≤ n ∧ n ≤ 1000
    · simp only [hn, and_self, decide_true, Bool.not_true]
      obtain ⟨m, rfl⟩ := Int.eq_ofNat_of_zero_le hn.1
      have e : dwn (chrs s) m = txt (cn (shf (hasB ab.1 ab.2) m)) := by
        unfold dwn; rw [h, setf_some (a := ab.1) (b := ab.2) h, decide_eq_true hn, Int.toNat_natCast]; rfl
      rw [e]
      refine Ev.step (fun k => ?_) (smakeDown_l0 ab.1 ab.2 hb.2.2 hb.1 hb.2.1 m (by omega) _ 0 (by omega) rfl)
      simp only [spec_MakeDown.j0]
      have em : mx 0 (wrap64 ((ab.1.length : Int) - (m : Int))) = ((ab.1.length - m : Nat) : Int) := by
        rw [w64 (by omega) (by omega)]; unfold mx; split <;> omega
      rw [if_neg (by decide), em]; rfl
    · rw [dwn_out hn]; simp only [hn, decide_false, Bool.not_false]; exact out _ _

end Go.Proofs.Ytpammnkboogceaa.P

-- For all arguments the law FnExactMakeDown holds.
namespace Go.Proofs.Ytpammnkboogceaa.P
open Go.RowKit Go.Proofs.YtpammnkboogceaaW.PrintWords Go.Proofs.YtpammnkboogceaaW.PrintLast Go.Proofs.YtpammnkboogceaaW.PrintMore
set_option linter.unusedVariables false
set_option linter.unusedSimpArgs false

theorem lawExactMakeDown_ev (s : ByteArray) (n : Int) : Ev (fun k => laws_FnExactMakeDown.f k s n) true := by
  by_cases hl : (s.size : Int) > 1048576
  · refine Ev.congr (f := fun _ => some true) (fun k => ?_) (Ev.now _)
    unfold laws_FnExactMakeDown.f; rw [if_pos hl]
  · have hs : s.size ≤ 70368744177664 := by omega
    refine Ev.congr (f := fun k => (spec_MakeDown.f k s n).bind fun bt402 => ((impl_MakeDown.f s n).bind fun bt404 => (if bt404.1.toList = bt402.1.toList then (if (bt404.2 != bt402.2) = true then (some false) else (some true)) else (some false)))) (fun k => ?_) (Ev.bind (smakeDown_f s hs n) ?_)
    · unfold laws_FnExactMakeDown.f; rw [if_neg hl]
    · rw [makeDown_f s hs n]
      simp only [Option.bind_some, if_true, bne_self_eq_false, Bool.false_eq_true, if_false]
      exact Ev.now _
theorem lawExactMakeDown_pure : laws_FnExactMakeDown.Pure := fun s n _ _ => (lawExactMakeDown_ev s n).rounds
end Go.Proofs.Ytpammnkboogceaa.P

-- For all arguments the law FnExactMakeDown holds.
namespace Go.Proofs.Ytpammnkboogceaa.Pure
theorem FnExactMakeDown : Go.Proofs.Ytpammnkboogceaa.P.laws_FnExactMakeDown.Pure := Go.Proofs.Ytpammnkboogceaa.P.lawExactMakeDown_pure
end Go.Proofs.Ytpammnkboogceaa.Pure
