/- What these laws reach, joined by a program of this session: contracts (written by that program over the kit's print, or by hand) and plain lemmas. -/
import Derived.Test.YticdcfgjpopkoaaK1
import Derived.Test.YticdcfgjpopkoaaK3
import Derived.Test.YticdcfgjpopkoaaK4
import Derived.Test.YticdcfgjpopkoaaK5
-- impl.pair over a question of two truths: the tidy text of the set of all numbers of which it holds.
namespace Go.Proofs.Yticdcfgjpopkoaa.P
open Go.RowKit Go.Proofs.YticdcfgjpopkoaaW.PrintWords Go.Proofs.YticdcfgjpopkoaaW.PrintLast Go.Proofs.YticdcfgjpopkoaaW.PrintMore
set_option linter.unusedVariables false
set_option linter.unusedSimpArgs false

set_option maxHeartbeats 8000000 in
set_option maxRecDepth 100000 in
theorem pair_q_calls (gh : Nat) (lbh : Array Value) (egh : ∀ args w, (callFunc gh args).run Try.prog w = .ok (.enter gh args) w) (op : Bool → Bool → Bool) (b0 b1 b2 : Nat)
    (x y x2 y2 : List Bool) (hy : y ≠ []) (hy2 : y2 ≠ []) (hl : x.length ≤ 60 ∧ y.length ≤ 60) (hl2 : x2.length ≤ 60 ∧ y2.length ≤ 60) (A0 : Option Addr) (c0 : Nat) (A1 : Option Addr) (c1 : Nat) (A2 : Option Addr) (c2 : Nat) (A3 : Option Addr) (c3 n : Nat) (hn : n ≤ 1000000) (W : World)
    (h0 : W.cell? ⟨b0, 0, none⟩ = some (.func (.func gh) #[] lbh)) (hx0 : W.cell? ⟨b1, 0, none⟩ = some (.slice A0 x.length c0)) (hx1 : W.cell? ⟨b1, 1, none⟩ = some (.slice A1 y.length c1)) (hx2 : W.cell? ⟨b2, 0, none⟩ = some (.slice A2 x2.length c2)) (hx3 : W.cell? ⟨b2, 1, none⟩ = some (.slice A3 y2.length c3))
    (hC0 : Kd.C Kd.bool W A0 x.length x) (hc0 : x.length ≤ c0) (hC1 : Kd.C Kd.bool W A1 y.length y) (hc1 : y.length ≤ c1) (hC2 : Kd.C Kd.bool W A2 x2.length x2) (hc2 : x2.length ≤ c2) (hC3 : Kd.C Kd.bool W A3 y2.length y2) (hc3 : y2.length ≤ c3)
    (hb0 : b0 < W.heap.size) (hb1 : b1 < W.heap.size) (hb2 : b2 < W.heap.size)
    (hh : ∀ (W' : World) (p q : Bool), Below W.heap.size W W' → Calls Try.prog gh (#[.bool p, .bool q] ++ lbh) W' fun e w' => e = .returned (.bool (op p q)) ∧ Below W'.heap.size W' w') :
    Calls Try.prog 60 #[.int .i64 n, .pointer (some ⟨b0, 0, none⟩), .pointer (some ⟨b1, 0, none⟩), .pointer (some ⟨b2, 0, none⟩)] W fun e w' => e = .returned (.bool (op (hasB x y n) (hasB x2 y2 n))) ∧ Below W.heap.size W w' := by
  have hu := Try.underlying43
  have HC1 := fun (W' : World) (hw : Below W.heap.size W W') => Aside0.mk (impl_set_has.calls A0 c0 x A1 c1 y (n : Int) (hasB x y n) W' (Kd.C_below hC0 hw) hc0 (Kd.C_below hC1 hw) hc1 (ihas_f x y hy (by omega) n (by omega)))
  have HC2 := fun (W' : World) (hw : Below W.heap.size W W') => Aside0.mk (impl_set_has.calls A2 c2 x2 A3 c3 y2 (n : Int) (hasB x2 y2 n) W' (Kd.C_below hC2 hw) hc2 (Kd.C_below hC3 hw) hc3 (ihas_f x2 y2 hy2 (by omega) n (by omega)))
  have HH := fun (W' : World) (hw : Below W.heap.size W W') => Aside0.mk (hh W' (hasB x y n) (hasB x2 y2 n) hw)
  generalize hasB x y n = p at *
  generalize hasB x2 y2 n = q at *
  clear hh hC0 hC1 hC2 hC3 hc0 hc1 hc2 hc3 hl hl2 hy hy2 hn
  go_enter Try.func60, Try.ntmps60
  have HK : ∀ w', Below W.heap.size W w' → (w'.cell? ⟨b0, 0, none⟩ = some (.func (.func gh) #[] lbh) ∧ w'.cell? ⟨b1, 0, none⟩ = some (.slice A0 x.length c0) ∧ w'.cell? ⟨b1, 1, none⟩ = some (.slice A1 y.length c1) ∧ w'.cell? ⟨b2, 0, none⟩ = some (.slice A2 x2.length c2) ∧ w'.cell? ⟨b2, 1, none⟩ = some (.slice A3 y2.length c3) ∧ Below W.heap.size W w') := fun w' hw =>
    ⟨(hw.cell (p := ⟨b0, 0, none⟩) hb0).trans h0, (hw.cell (p := ⟨b1, 0, none⟩) hb1).trans hx0, (hw.cell (p := ⟨b1, 1, none⟩) hb1).trans hx1, (hw.cell (p := ⟨b2, 0, none⟩) hb2).trans hx2, (hw.cell (p := ⟨b2, 1, none⟩) hb2).trans hx3, hw⟩
  have HKA := Aside0.mk HK
  clear HK
  go_wp2
  go_region_held3 (fun w' => w'.cell? ⟨b0, 0, none⟩ = some (.func (.func gh) #[] lbh) ∧ w'.cell? ⟨b1, 0, none⟩ = some (.slice A0 x.length c0) ∧ w'.cell? ⟨b1, 1, none⟩ = some (.slice A1 y.length c1) ∧ w'.cell? ⟨b2, 0, none⟩ = some (.slice A2 x2.length c2) ∧ w'.cell? ⟨b2, 1, none⟩ = some (.slice A3 y2.length c3) ∧ Below W.heap.size W w')
    ((refine HKA.out _ ?_; go_split_ands; (first | exact Below.refl _ _ | assumption | exact below_step (by assumption) hd3 | exact below_step (by assumption) hd2 | exact below_step (by assumption) hd1 | (apply below_drew1; first | assumption | exact Below.refl _ _))))
    ((first
      | (go_at_call 27; go_split_ands; with_reducible refine (HC1 _ (by assumption)).out.mono ?_; rintro e w1 ⟨rfl, hd1⟩)
      | (go_at_call 27; go_split_ands; with_reducible refine (HC2 _ (by assumption)).out.mono ?_; rintro e w2 ⟨rfl, hd2⟩)
      | (go_at_fn gh; go_split_ands; refine (HH _ (by assumption)).out.mono ?_; rintro e w3 ⟨rfl, hd3⟩)))
  all_goals go_wp2
  all_goals go_ret
  all_goals (go_split_ands; exact ⟨rfl, by first | assumption | exact below_step (by assumption) hd3⟩)

set_option maxHeartbeats 8000000 in
set_option maxRecDepth 100000 in
theorem pair_calls (s t : ByteArray) (hs : s.size ≤ 70368744177664) (ht : t.size ≤ 70368744177664) (gh : Nat) (lbh : Array Value) (op : Bool → Bool → Bool) (w : World)
    (egh : ∀ args w, (callFunc gh args).run Try.prog w = .ok (.enter gh args) w)
    (hh : ∀ (W : World) (p q : Bool), Below w.heap.size w W → Calls Try.prog gh (#[.bool p, .bool q] ++ lbh) W fun e w' => e = .returned (.bool (op p q)) ∧ Below W.heap.size W w') :
    Calls Try.prog 39 #[.string s, .string t, .func (.func gh) #[] lbh] w fun e w' => e = .returned (.tuple #[.string (two op (chrs s) (chrs t)).1, .bool (two op (chrs s) (chrs t)).2]) ∧ Below w.heap.size w w' := by
  obtain ⟨x, y, hev, hxy⟩ := setOf_f s hs
  obtain ⟨x2, y2, hev2, hxy2⟩ := setOf_f t ht
  obtain ⟨k, hk⟩ := hev.rounds
  obtain ⟨k2, hk2⟩ := hev2.rounds
  have hu := Try.underlying43
  have HH := Aside0.mk hh
  clear hh hev hev2
  have key : ∀ (b b2 : Bool), (parse (chrs s)).isSome = b → (parse (chrs t)).isSome = b2 → Calls Try.prog 39 #[.string s, .string t, .func (.func gh) #[] lbh] w fun e w' => e = .returned (.tuple #[.string (two op (chrs s) (chrs t)).1, .bool (two op (chrs s) (chrs t)).2]) ∧ Below w.heap.size w w' := by
    intro b b2 hb hb2
    rw [hb] at hk
    rw [hb2] at hk2
    have HK := fun w => Aside0.mk (impl_setOf.calls k s x y b w hk)
    have HK2 := fun w => Aside0.mk (impl_setOf.calls k2 t x2 y2 b2 w hk2)
    by_cases hall : b = true ∧ b2 = true
    · obtain ⟨rfl, rfl⟩ := hall
      obtain ⟨⟨a, c⟩, hp⟩ := Option.isSome_iff_exists.1 hb
      obtain ⟨⟨a2, c2⟩, hp2⟩ := Option.isSome_iff_exists.1 hb2
      obtain ⟨rfl, rfl⟩ := hxy a c hp
      obtain ⟨rfl, rfl⟩ := hxy2 a2 c2 hp2
      have q1 := parse_some hp
      have q2 := parse_some hp2
      have hpos := List.length_pos_iff.2 q1.2.2
      have hpos2 := List.length_pos_iff.2 q2.2.2
      have e : two op (chrs s) (chrs t) = txt (cn fun n => op (hasB x y n) (hasB x2 y2 n)) := by
        unfold two; rw [hb, hb2, setf_some hp, setf_some hp2]; rfl
      rw [e]
      obtain ⟨k3, hk3⟩ := (both_f x y x2 y2 (by omega) (by omega) hpos).rounds
      have hL := lcm_small q1.2.1 q2.2.1
      have hL0 : 0 < Nat.lcm y.length y2.length := Nat.lcm_pos hpos hpos2
      have hper : Per (fun n => op (hasB x y n) (hasB x2 y2 n)) (max x.length x2.length) (Nat.lcm y.length y2.length) := pair_per ((hasB_per x y).lcm_left _ _) ((hasB_per x2 y2).lcm_right _ _) op
      have hM : max x.length x2.length ≤ 60 := by omega
      have eg : ∀ args w, (callFunc 60 args).run Try.prog w = .ok (.enter 60 args) w := enters_of Try.func60 (by kernel_rfl) rfl
      have HM := fun (lb : Array Value) (w : World) => Aside0.mk (made_calls (fun n => op (hasB x y n) (hasB x2 y2 n)) (max x.length x2.length) (Nat.lcm y.length y2.length) hL0 hper (by omega) 60 lb w eg)
      have HQ := Aside0.mk (show (x.length ≤ 60 ∧ y.length ≤ 60 ∧ y ≠ []) ∧ (x2.length ≤ 60 ∧ y2.length ≤ 60 ∧ y2 ≠ []) from ⟨q1, q2⟩)
      have HLL := Aside0.mk hL
      have HMM := Aside0.mk hM
      generalize max x.length x2.length = M at *
      generalize Nat.lcm y.length y2.length = L at *
      clear hb hb2 hp hp2 hxy hxy2 hk hk2 hper eg q1 q2 hpos hpos2 hL hL0 e hM
      go_enter Try.func39, Try.ntmps39
      go_wp2_with (first
        | (go_at_call 26; with_reducible refine (HK _).out.mono ?_; rintro e w1 ⟨v0_, v1_, rfl, hR0, hR1, hb1⟩; obtain ⟨A0, n0, rfl, hn0, hC0⟩ := Kd.R_reads hR0; obtain ⟨A1, n1, rfl, hn1, hC1⟩ := Kd.R_reads hR1; have C0 := Aside0.mk hC0; have C1 := Aside0.mk hC1; have N0 := Aside0.mk hn0; have N1 := Aside0.mk hn1; clear hR0 hR1 hC0 hC1 hn0 hn1; have HB := Aside0.mk (below_step (below_alloc (Below.refl w.heap.size w) _) hb1); have F0 := Aside0.mk ((hb1.cell (p := ⟨w.heap.size, 0, none⟩) (by simp)).trans (by simp : (w.alloc (.cells #[.func (.func gh) #[] lbh] _)).cell? ⟨w.heap.size, 0, none⟩ = some (.func (.func gh) #[] lbh))); have L0 := Aside0.mk (Nat.lt_of_lt_of_le (by simp) hb1.size : w.heap.size < w1.heap.size); clear hb1)
        | (go_at_call 26; with_reducible refine (HK2 _).out.mono ?_; rintro e w2 ⟨v2_, v3_, rfl, hR0, hR1, hb2⟩; obtain ⟨A2, n2, rfl, hn2, hC2⟩ := Kd.R_reads hR0; obtain ⟨A3, n3, rfl, hn3, hC3⟩ := Kd.R_reads hR1; have C2 := Aside0.mk hC2; have C3 := Aside0.mk hC3; have N2 := Aside0.mk hn2; have N3 := Aside0.mk hn3; clear hR0 hR1 hC2 hC3 hn2 hn3; have HB12 := Aside0.mk (below_step (below_alloc (Below.refl w1.heap.size w1) _) hb2); have e0 := (hb2.cell (p := ⟨w1.heap.size, 0, none⟩) (by simp)).trans (by simp : (w1.alloc (.cells #[.slice A0 x.length n0, .slice A1 y.length n1] _)).cell? ⟨w1.heap.size, 0, none⟩ = some (.slice A0 x.length n0)); have e1 := (hb2.cell (p := ⟨w1.heap.size, 1, none⟩) (by simp)).trans (by simp : (w1.alloc (.cells #[.slice A0 x.length n0, .slice A1 y.length n1] _)).cell? ⟨w1.heap.size, 1, none⟩ = some (.slice A1 y.length n1)); have E0 := Aside0.mk e0; have E1 := Aside0.mk e1; have l1 : w1.heap.size < w2.heap.size := Nat.lt_of_lt_of_le (by simp) hb2.size; have L1 := Aside0.mk l1; clear hb2)
        | (go_at_call 28; refine (impl_both.calls k3 A0 n0 x A1 n1 y A2 n2 x2 A3 n3 y2 _ _ _ (Kd.C_below C0.out (below_step HB12.out (below_alloc (Below.refl _ _) _))) N0.out (Kd.C_below C1.out (below_step HB12.out (below_alloc (Below.refl _ _) _))) N1.out (Kd.C_alloc C2.out _) N2.out (Kd.C_alloc C3.out _) N3.out hk3).mono ?_; rintro e w3 ⟨rfl, hb3⟩; have HB23 := Aside0.mk (below_step (below_alloc (Below.refl w2.heap.size w2) _) hb3); have G3 := Aside0.mk ((hb3.cell (p := ⟨w2.heap.size, 0, none⟩) (by simp)).trans (by simp : (w2.alloc (.cells #[.slice A2 x2.length n2, .slice A3 y2.length n3] _)).cell? ⟨w2.heap.size, 0, none⟩ = some (.slice A2 x2.length n2))); have G4 := Aside0.mk ((hb3.cell (p := ⟨w2.heap.size, 1, none⟩) (by simp)).trans (by simp : (w2.alloc (.cells #[.slice A2 x2.length n2, .slice A3 y2.length n3] _)).cell? ⟨w2.heap.size, 1, none⟩ = some (.slice A3 y2.length n3))); have L2 := Aside0.mk (Nat.lt_of_lt_of_le (by simp) hb3.size : w2.heap.size < w3.heap.size); clear hb3)
        | (go_at_call 36; refine ((HM _ _).out ?hc).mono ?_; (case hc =>
            intro W i hW hi
            have hBW := below_step HB23.out hW
            have hBW1 := below_step HB12.out hBW
            have hq := HQ.out
            have hl0 := L0.out
            have hl1 := L1.out
            have hl2 := L2.out
            have hs3 := hW.size
            have hL := HLL.out
            have hM := HMM.out
            exact pair_q_calls gh lbh egh op w.heap.size w1.heap.size w2.heap.size x y x2 y2 hq.1.2.2 hq.2.2.2 ⟨hq.1.1, hq.1.2.1⟩ ⟨hq.2.1, hq.2.2.1⟩ A0 n0 A1 n1 A2 n2 A3 n3 i (by omega) W
              ((hBW1.cell (p := ⟨w.heap.size, 0, none⟩) hl0).trans F0.out)
              ((hBW.cell (p := ⟨w1.heap.size, 0, none⟩) hl1).trans E0.out)
              ((hBW.cell (p := ⟨w1.heap.size, 1, none⟩) hl1).trans E1.out)
              ((hW.cell (p := ⟨w2.heap.size, 0, none⟩) hl2).trans G3.out)
              ((hW.cell (p := ⟨w2.heap.size, 1, none⟩) hl2).trans G4.out)
              (Kd.C_below C0.out hBW1) N0.out (Kd.C_below C1.out hBW1) N1.out (Kd.C_below C2.out hBW) N2.out (Kd.C_below C3.out hBW) N3.out (by omega) (by omega) (by omega)
              (fun W' p q hw => HH.out W' p q (below_step (below_step HB.out hBW1) hw))); rintro e w4 ⟨rfl, hb4⟩))
      go_ret2
      exact ⟨rfl, below_step (below_step HB.out (below_step HB12.out HB23.out)) hb4⟩
    · have e : two op (chrs s) (chrs t) = (⟨#[]⟩, false) := by
        unfold two; rw [hb, hb2, if_neg (by simpa using hall)]
      rw [e]
      have hcase : b = false ∨ (b = true ∧ b2 = false) := by
        cases b with
        | false => exact .inl rfl
        | true =>
          cases b2 with
          | false => exact .inr ⟨rfl, rfl⟩
          | true => exact absurd ⟨rfl, rfl⟩ hall
      clear hb hb2 hk hk2 hxy hxy2 hall e HH
      rcases hcase with rfl | ⟨rfl, rfl⟩
      all_goals
        go_enter Try.func39, Try.ntmps39
        go_wp2_with (first
          | (go_at_call 26; with_reducible refine (HK _).out.mono ?_; rintro e w1 ⟨v0_, v1_, rfl, hR0, hR1, hb1⟩; obtain ⟨A0, n0, rfl, hn0, hC0⟩ := Kd.R_reads hR0; obtain ⟨A1, n1, rfl, hn1, hC1⟩ := Kd.R_reads hR1; clear hR0 hR1 hC0 hC1 hn0 hn1; have HB := Aside0.mk (below_step (below_alloc (Below.refl w.heap.size w) _) hb1); clear hb1)
          | (go_at_call 26; with_reducible refine (HK2 _).out.mono ?_; rintro e w2 ⟨v2_, v3_, rfl, hR0, hR1, hb2⟩; obtain ⟨A2, n2, rfl, hn2, hC2⟩ := Kd.R_reads hR0; obtain ⟨A3, n3, rfl, hn3, hC3⟩ := Kd.R_reads hR1; clear hR0 hR1 hC2 hC3 hn2 hn3; have HB2 := Aside0.mk (below_step HB.out (below_step (below_alloc (Below.refl w1.heap.size w1) _) hb2)); clear hb2))
        go_ret2
        refine ⟨rfl, ?_⟩
        repeat (first | exact HB2.out | apply below_alloc | (refine below_set ?_ HB2.out.size))
  exact key _ _ rfl rfl
end Go.Proofs.Yticdcfgjpopkoaa.P

-- impl.MakeEither.
namespace Go.Proofs.Yticdcfgjpopkoaa.P
open Go.RowKit Go.Proofs.YticdcfgjpopkoaaW.PrintWords Go.Proofs.YticdcfgjpopkoaaW.PrintLast Go.Proofs.YticdcfgjpopkoaaW.PrintMore
set_option linter.unusedVariables false
set_option linter.unusedSimpArgs false

noncomputable def impl_MakeEither.f (s t : ByteArray) : Option (ByteArray × Bool) := if s.size ≤ 70368744177664 ∧ t.size ≤ 70368744177664 then some (two (fun x y => x || y) (chrs s) (chrs t)) else none
theorem makeEither_f (s t : ByteArray) (hs : s.size ≤ 70368744177664) (ht : t.size ≤ 70368744177664) : impl_MakeEither.f s t = some (two (fun x y => x || y) (chrs s) (chrs t)) := by unfold impl_MakeEither.f; rw [if_pos ⟨hs, ht⟩]

set_option maxHeartbeats 8000000 in
theorem either_q_calls (p q : Bool) (W : World) :
    Calls Try.prog 40 #[.bool p, .bool q] W fun e w' => e = .returned (.bool (p || q)) ∧ Below W.heap.size W w' := by
  cases p <;> cases q
  all_goals
    go_enter Try.func40, Try.ntmps40
    go_wp2
    go_ret
    exact ⟨rfl, Below.refl _ _⟩

set_option maxHeartbeats 8000000 in
set_option maxRecDepth 100000 in
theorem impl_MakeEither.calls (a0 a1 : ByteArray) (r1 : ByteArray) (r2 : Bool) (w : World) (h : impl_MakeEither.f a0 a1 = some (r1, r2)) :
    Calls Try.prog 18 #[.string a0, .string a1] w fun e w' => e = .returned (.tuple #[.string r1, .bool r2]) ∧ Below w.heap.size w w' := by
  unfold impl_MakeEither.f at h
  split at h
  · rename_i hs
    simp only [Option.some.injEq] at h
    have eg : ∀ args w, (callFunc 40 args).run Try.prog w = .ok (.enter 40 args) w := enters_of Try.func40 (by kernel_rfl) rfl
    have hx : ∀ w1 : World, Calls Try.prog 39 #[.string a0, .string a1, .func (.func 40) #[] #[]] w1 fun e w' => e = .returned (.tuple #[.string r1, .bool r2]) ∧ Below w1.heap.size w1 w' := by
      intro w1
      have := pair_calls a0 a1 hs.1 hs.2 40 #[] (fun x y => x || y) w1 eg (fun W p q _ => either_q_calls p q W)
      rw [h] at this
      exact this
    have HX := Aside0.mk hx
    clear hx h hs eg
    go_enter Try.func18, Try.ntmps18
    go_wp2_with (go_at_call 39; refine (HX.out _).mono ?_; rintro e w2 ⟨rfl, hb2⟩)
    go_ret2
    exact ⟨rfl, hb2⟩
  · cases h
end Go.Proofs.Yticdcfgjpopkoaa.P

namespace Go.Proofs.Yticdcfgjpopkoaa.P
open Go.RowKit Go.Proofs.YticdcfgjpopkoaaW.PrintWords Go.Proofs.YticdcfgjpopkoaaW.PrintLast Go.Proofs.YticdcfgjpopkoaaW.PrintMore
attribute [local go_sem] max2_int min2_int max_two min_two max_three min_three max_four min_four   -- for this text's walks alone
set_option linter.unusedVariables false
set_option linter.unusedSimpArgs false

/-! ### impl_sums: function 43 -/
def impl_sums.l0:Nat → Int → Int → Int → List Bool → List Bool → List Bool → List Bool → Option (Bool)
 | 0,_,_,_,_,_,_,_=>none
 | k + 1,x2,x9,x10,x530000,x530001,x531000,x531001=>if x10 < x9 then ((impl_set_has.f x530000 x530001 x10).bind fun t531=>(if t531 = true then ((impl_set_has.f x531000 x531001 (wrap64 (x2 - x10))).bind fun t532=>(if t532 = true then (some true) else (impl_sums.l0 k x2 x9 (wrap64 (x10 + 1)) x530000 x530001 x531000 x531001))) else (impl_sums.l0 k x2 x9 (wrap64 (x10 + 1)) x530000 x530001 x531000 x531001))) else (some false)
def impl_sums.f (k:Nat) (l0_0:List Bool) (l0_1:List Bool) (l1_0:List Bool) (l1_1:List Bool) (a2:Int):Option (Bool):=impl_sums.l0 k a2 (wrap64 (a2 + 1)) 0 l0_0 l0_1 l1_0 l1_1
theorem impl_sums.mono_l:∀ k,(∀ y0 y1 y2 y3 y4 y5 y6,LeO (impl_sums.l0 k y0 y1 y2 y3 y4 y5 y6) (impl_sums.l0 (k + 1) y0 y1 y2 y3 y4 y5 y6))
 | 0=>fun _ _ _ _ _ _ _ r h=>by simp [impl_sums.l0] at h
 | k + 1=>by
  have ih0:=impl_sums.mono_l k
  ·intro y0 y1 y2 y3 y4 y5 y6
   unfold impl_sums.l0
   repeat' first
   | (with_reducible exact ih0 _ _ _ _ _ _ _)
   | (with_reducible exact LeO.refl _)
   | (with_reducible exact LeO.none _)
   | (with_reducible refine LeO.ite ?_ ?_)
   | (with_reducible refine LeO.bind ?_ (fun _=>?_))
   | exact ih0 _ _ _ _ _ _ _
   | exact LeO.none _
   | refine LeO.ite ?_ ?_
   | refine LeO.bind ?_ (fun _=>?_)
theorem impl_sums.mono:∀ a0 a1 a2 a3 a4 k,LeO (impl_sums.f k a0 a1 a2 a3 a4) (impl_sums.f (k + 1) a0 a1 a2 a3 a4):=by
 intro a0 a1 a2 a3 a4 k
 have ih0:=impl_sums.mono_l k
 unfold impl_sums.f
 repeat' first
   | (with_reducible exact ih0 _ _ _ _ _ _ _)
   | (with_reducible exact LeO.refl _)
   | (with_reducible exact LeO.none _)
   | (with_reducible refine LeO.ite ?_ ?_)
   | (with_reducible refine LeO.bind ?_ (fun _=>?_))
   | exact ih0 _ _ _ _ _ _ _
   | exact LeO.none _
   | refine LeO.ite ?_ ?_
   | refine LeO.bind ?_ (fun _=>?_)
set_option maxHeartbeats 8000000 in
set_option maxRecDepth 100000 in
theorem impl_sums.calls (k:Nat) (A0_0:Option Addr) (c0_0:Nat) (l0_0:List Bool) (A0_1:Option Addr) (c0_1:Nat) (l0_1:List Bool) (A1_0:Option Addr) (c1_0:Nat) (l1_0:List Bool) (A1_1:Option Addr) (c1_1:Nat) (l1_1:List Bool) (a2:Int) (r:Bool) (w:World) (hr0_0:Kd.C Kd.bool w A0_0 l0_0.length l0_0) (hc0_0:l0_0.length≤c0_0) (hr0_1:Kd.C Kd.bool w A0_1 l0_1.length l0_1) (hc0_1:l0_1.length≤c0_1) (hr1_0:Kd.C Kd.bool w A1_0 l1_0.length l1_0) (hc1_0:l1_0.length≤c1_0) (hr1_1:Kd.C Kd.bool w A1_1 l1_1.length l1_1) (hc1_1:l1_1.length≤c1_1) (h:impl_sums.f k l0_0 l0_1 l1_0 l1_1 a2 = some r) :
  Calls Try.prog 43 #[.agg #[.slice A0_0 l0_0.length c0_0,.slice A0_1 l0_1.length c0_1],.agg #[.slice A1_0 l1_0.length c1_0,.slice A1_1 l1_1.length c1_1],.int .i64 a2] w fun e w'=>e = .returned (.bool r)∧Below w.heap.size w w':=by
 have hu43:=Try.underlying43
 have HR0_0:=Aside0.mk hr0_0
 have HC0_0:=Aside0.mk hc0_0
 clear hr0_0 hc0_0
 have HR0_1:=Aside0.mk hr0_1
 have HC0_1:=Aside0.mk hc0_1
 clear hr0_1 hc0_1
 have HR1_0:=Aside0.mk hr1_0
 have HC1_0:=Aside0.mk hc1_0
 clear hr1_0 hc1_0
 have HR1_1:=Aside0.mk hr1_1
 have HC1_1:=Aside0.mk hc1_1
 clear hr1_1 hc1_1
 have HB:=Aside0.mk (Below.refl w.heap.size w)
 have H:(impl_sums.l0 k a2 (wrap64 (a2 + 1)) 0 l0_0 l0_1 l1_0 l1_1) = some r:=h
 clear h
 have H':=Aside0.mk H
 clear H
 go_enter Try.func43,Try.ntmps43
 go_wp2_with (first|((with_reducible refine gate_dst (N:=3) rfl ?_);refine box_event ?hg (N:=3) ?hd (cs:=#[.slice A0_0 l0_0.length c0_0,.slice A0_1 l0_1.length c0_1]) (t:=43) ?hr ?_;(case hd=>rfl);(case hg=>rfl);(case hr=>first|(go_simp;done)|(go_simp;rfl));intro gb529 hg w4 hbox hb;have n0_:=Aside0.mk (below_step (by repeat (first|(with_reducible first|exact HB.out|apply below_alloc|apply pw_below_drewN|apply below_drew1)|exact HB.out)) hb);have n1_:=Aside0.mk (hbox);have n2_:=Aside0.mk ((by rw [hg];exact (below_size (by repeat (first|(with_reducible first|exact HB.out|apply below_alloc|apply pw_below_drewN|apply below_drew1)|exact HB.out))):w.heap.size≤gb529));have n3_:=Aside0.mk ((by rw [hg];exact (below_size (by repeat (first|(with_reducible first|exact HB.out|apply below_alloc|apply pw_below_drewN|apply below_drew1)|exact HB.out))):w.heap.size≤gb529));clear HB;have HB:=n0_;have BK529:=n1_;have GW529:=n2_;have GE529:=n3_;clear n0_ n1_ n2_ n3_;clear hb hbox hg)|((with_reducible refine gate_dst (N:=4) rfl ?_);refine box_event ?hg (N:=4) ?hd (cs:=#[.slice A1_0 l1_0.length c1_0,.slice A1_1 l1_1.length c1_1]) (t:=43) ?hr ?_;(case hd=>rfl);(case hg=>rfl);(case hr=>first|(go_simp;done)|(go_simp;rfl));intro gb530 hg w5 hbox hb;have n0_:=Aside0.mk (blk_below (g:=gb529) (o:=.cells #[.slice A0_0 l0_0.length c0_0,.slice A0_1 l0_1.length c0_1] 43 (0,0)) (by (with_reducible repeat (first|refine blk_drewN ?_ _|refine blk_drew ?_|refine blk_alloc ?_ _));exact BK529.out) hb);have n1_:=Aside0.mk (below_step (by repeat (first|(with_reducible first|exact HB.out|apply below_alloc|apply pw_below_drewN|apply below_drew1|refine below_set ?_ GE529.out)|exact HB.out)) hb);have n2_:=Aside0.mk (hbox);have n3_:=Aside0.mk ((by rw [hg];exact (below_size (by repeat (first|(with_reducible first|exact HB.out|apply below_alloc|apply pw_below_drewN|apply below_drew1|refine below_set ?_ GE529.out)|exact HB.out))):w.heap.size≤gb530));have n4_:=Aside0.mk ((by rw [hg];exact (below_size (by repeat (first|(with_reducible first|exact HB.out|apply below_alloc|apply pw_below_drewN|apply below_drew1|refine below_set ?_ GE529.out)|exact HB.out))):w.heap.size≤gb530));have n5_:=Aside0.mk ((by rw [hg];exact Nat.ne_of_lt (blk_lt (g:=gb529) (o:=.cells #[.slice A0_0 l0_0.length c0_0,.slice A0_1 l0_1.length c0_1] 43 (0,0)) (by (with_reducible repeat (first|refine blk_drewN ?_ _|refine blk_drew ?_|refine blk_alloc ?_ _));exact BK529.out)):gb529 ≠ gb530));have n6_:=Aside0.mk ((by rw [hg];exact Nat.ne_of_gt (blk_lt (g:=gb529) (o:=.cells #[.slice A0_0 l0_0.length c0_0,.slice A0_1 l0_1.length c0_1] 43 (0,0)) (by (with_reducible repeat (first|refine blk_drewN ?_ _|refine blk_drew ?_|refine blk_alloc ?_ _));exact BK529.out)):gb530 ≠ gb529));clear BK529;clear HB;have BK529:=n0_;have HB:=n1_;have BK530:=n2_;have GW530:=n3_;have GE530:=n4_;have NB529_530:=n5_;have NB530_529:=n6_;clear n0_ n1_ n2_ n3_ n4_ n5_ n6_;clear hb hbox hg))
 go_loopg [10] k (fun kq v10 w'=>∃ (x10_1:Int),v10 = .int .i64 x10_1∧Aside0 (impl_sums.l0 kq a2 (wrap64 (a2 + 1)) x10_1 l0_0 l0_1 l1_0 l1_1 = some r)∧Aside0 (kq≤k)∧Aside0 (w'.heap[gb529]? = some (.cells #[(.slice A0_0 l0_0.length c0_0),(.slice A0_1 l0_1.length c0_1)] 43 (0,0)))∧Aside0 (w'.heap[gb530]? = some (.cells #[(.slice A1_0 l1_0.length c1_0),(.slice A1_1 l1_1.length c1_1)] 43 (0,0)))∧Aside0 (Below w.heap.size w w'))
 case atStart=>exact ⟨(0),(by first|rfl|(simp;done)|(simp [*];done)|(simp [Int.tmod_eq_emod_of_nonneg];done)),H',⟨Nat.le_refl _⟩,⟨by (with_reducible repeat (first|refine blk_drewN ?_ _|refine blk_drew ?_|refine blk_alloc ?_ _));exact BK529.out⟩,⟨by (with_reducible repeat (first|refine blk_drewN ?_ _|refine blk_drew ?_|refine blk_alloc ?_ _));exact BK530.out⟩,⟨by repeat (first|(with_reducible first|exact HB.out|apply below_alloc|apply pw_below_drewN|apply below_drew1|refine below_set ?_ GE529.out|refine below_set ?_ GE530.out)|exact HB.out)⟩⟩
 case round =>
  clear H'
  try clear c1
  try clear p2
  try clear c4
  obtain ⟨x10_1,rfl,HA,HK1,BK529,BK530,HB⟩:=hrel
  cases gk with
  | zero=>exact absurd HA.out (by simp [impl_sums.l0])
  | succ k1 =>
   have H:=HA.out
   clear HA
   simp only [impl_sums.l0] at H
   by_cases c6:x10_1 < (wrap64 (a2 + 1))
   ·rw [if_pos c6] at H
    have c6b0:decide (x10_1 < (wrap64 (a2 + 1))) = true:=decide_eq_true c6
    clear c6
    replace H:=Option.bind_eq_some_iff.mp H
    obtain ⟨t531,A70,H⟩:=H
    replace H:(if t531 = true then ((impl_set_has.f l1_0 l1_1 (wrap64 (a2 - x10_1))).bind fun t532=>(if t532 = true then (some true) else (impl_sums.l0 k1 a2 (wrap64 (a2 + 1)) (wrap64 (x10_1 + 1)) l0_0 l0_1 l1_0 l1_1))) else (impl_sums.l0 k1 a2 (wrap64 (a2 + 1)) (wrap64 (x10_1 + 1)) l0_0 l0_1 l1_0 l1_1)) = some r:=H
    have A7:=Aside0.mk A70
    clear A70
    by_cases c8:t531 = true
    ·subst c8
     have H1:((impl_set_has.f l1_0 l1_1 (wrap64 (a2 - x10_1))).bind fun t532=>(if t532 = true then (some true) else (impl_sums.l0 k1 a2 (wrap64 (a2 + 1)) (wrap64 (x10_1 + 1)) l0_0 l0_1 l1_0 l1_1))) = some r:=by rw [if_pos rfl] at H;exact H
     clear H
     have H:=H1
     clear H1
     replace H:=Option.bind_eq_some_iff.mp H
     obtain ⟨t532,A90,H⟩:=H
     replace H:(if t532 = true then (some true) else (impl_sums.l0 k1 a2 (wrap64 (a2 + 1)) (wrap64 (x10_1 + 1)) l0_0 l0_1 l1_0 l1_1)) = some r:=H
     have A9:=Aside0.mk A90
     clear A90
     by_cases c10:t532 = true
     ·subst c10
      have H1:(some true) = some r:=by rw [if_pos rfl] at H;exact H
      clear H
      have H:=H1
      clear H1
      obtain rfl:=Option.some.inj H
      have hnb11:=NB529_530.out
      have hnc11:=NB530_529.out
      have hcz12_0:wr.cell? ⟨gb529,0,none⟩ = some (.slice A0_0 l0_0.length c0_0):=(blk_cell BK529.out 0).trans rfl
      have hcz12_1:wr.cell? ⟨gb529,1,none⟩ = some (.slice A0_1 l0_1.length c0_1):=(blk_cell BK529.out 1).trans rfl
      have hfz12_0:=blk_frozen BK529.out 0
      have hfz12_1:=blk_frozen BK529.out 1
      go_wp2_with (first|((with_reducible refine gate_callee (f:=27) rfl ?_);refine goesL_ (some 15) rfl rfl Try.func27 (by kernel_rfl) rfl #[.agg #[.slice A0_0 l0_0.length c0_0,.slice A0_1 l0_1.length c0_1],.int .i64 x10_1] rfl (by (try simp only [List.map_toArray,List.map_cons,List.map_nil]);first|done|rfl|(simp only [List.length_drop,List.length_take];rfl)) ?_;(with_reducible refine (impl_set_has.calls _ _ l0_0 _ _ l0_1 x10_1 true _ ?side1 ?side2 ?side3 ?side4 A7.out).mono ?_);(case side1=>repeat (first|exact (Kd.C_below HR0_0.out HB.out)|(with_reducible refine Kd.C_alloc ?_ _)|(with_reducible refine Kd.C_drewN ?_ _)|(with_reducible refine Kd.C_drew ?_)));(case side2=>exact HC0_0.out);(case side3=>repeat (first|exact (Kd.C_below HR0_1.out HB.out)|(with_reducible refine Kd.C_alloc ?_ _)|(with_reducible refine Kd.C_drewN ?_ _)|(with_reducible refine Kd.C_drew ?_)));(case side4=>exact HC0_1.out);rintro e w13 ⟨rfl,hb⟩;refine ⟨_,rfl,?_⟩;have n0_:=Aside0.mk (blk_below (g:=gb529) (o:=.cells #[.slice A0_0 l0_0.length c0_0,.slice A0_1 l0_1.length c0_1] 43 (0,0)) (by (with_reducible repeat (first|refine blk_drewN ?_ _|refine blk_drew ?_|refine blk_alloc ?_ _));exact BK529.out) hb);have n1_:=Aside0.mk (blk_below (g:=gb530) (o:=.cells #[.slice A1_0 l1_0.length c1_0,.slice A1_1 l1_1.length c1_1] 43 (0,0)) (by (with_reducible repeat (first|refine blk_drewN ?_ _|refine blk_drew ?_|refine blk_alloc ?_ _));exact BK530.out) hb);have n2_:=Aside0.mk (below_step (by repeat (first|(with_reducible first|exact HB.out|apply below_alloc|apply pw_below_drewN|apply below_drew1|refine below_set ?_ GE529.out|refine below_set ?_ GE530.out)|exact HB.out)) hb);clear BK529;clear BK530;clear HB;have BK529:=n0_;have BK530:=n1_;have HB:=n2_;clear n0_ n1_ n2_;(try clear hb);(try clear hb2);(try clear hk);(try clear hi);have hcz14_0:w13.cell? ⟨gb530,0,none⟩ = some (.slice A1_0 l1_0.length c1_0):=(blk_cell BK530.out 0).trans rfl;have hcz14_1:w13.cell? ⟨gb530,1,none⟩ = some (.slice A1_1 l1_1.length c1_1):=(blk_cell BK530.out 1).trans rfl;have hfz14_0:=blk_frozen BK530.out 0;have hfz14_1:=blk_frozen BK530.out 1)|(go_at_call 27;(with_reducible refine (impl_set_has.calls _ _ l1_0 _ _ l1_1 (wrap64 (a2 - x10_1)) true _ ?side1 ?side2 ?side3 ?side4 A9.out).mono ?_);(case side1=>repeat (first|exact (Kd.C_below HR1_0.out HB.out)|(with_reducible refine Kd.C_alloc ?_ _)|(with_reducible refine Kd.C_drewN ?_ _)|(with_reducible refine Kd.C_drew ?_)));(case side2=>exact HC1_0.out);(case side3=>repeat (first|exact (Kd.C_below HR1_1.out HB.out)|(with_reducible refine Kd.C_alloc ?_ _)|(with_reducible refine Kd.C_drewN ?_ _)|(with_reducible refine Kd.C_drew ?_)));(case side4=>exact HC1_1.out);rintro e w15 ⟨rfl,hb⟩;have n0_:=Aside0.mk (blk_below (g:=gb529) (o:=.cells #[.slice A0_0 l0_0.length c0_0,.slice A0_1 l0_1.length c0_1] 43 (0,0)) (by (with_reducible repeat (first|refine blk_drewN ?_ _|refine blk_drew ?_|refine blk_alloc ?_ _));exact BK529.out) hb);have n1_:=Aside0.mk (blk_below (g:=gb530) (o:=.cells #[.slice A1_0 l1_0.length c1_0,.slice A1_1 l1_1.length c1_1] 43 (0,0)) (by (with_reducible repeat (first|refine blk_drewN ?_ _|refine blk_drew ?_|refine blk_alloc ?_ _));exact BK530.out) hb);have n2_:=Aside0.mk (below_step (by repeat (first|(with_reducible first|exact HB.out|apply below_alloc|apply pw_below_drewN|apply below_drew1|refine below_set ?_ GE529.out|refine below_set ?_ GE530.out)|exact HB.out)) hb);clear BK529;clear BK530;clear HB;have BK529:=n0_;have BK530:=n1_;have HB:=n2_;clear n0_ n1_ n2_;(try clear hb);(try clear hb2);(try clear hk);(try clear hi)))
      go_ret
      exact ⟨by first|rfl|(simp [errW_none,errW_some] <;> rfl)|(simp [*,errW_none,errW_some] <;> rfl)|(simp [errW_none,errW_some];exact ⟨rfl,rfl⟩),by repeat (first|(with_reducible first|exact HB.out|apply below_alloc|apply pw_below_drewN|apply below_drew1|refine below_set ?_ GE529.out|refine below_set ?_ GE530.out)|exact HB.out)⟩
     ·replace c10:=Bool.eq_false_iff.mpr c10
      subst c10
      have H1:(impl_sums.l0 k1 a2 (wrap64 (a2 + 1)) (wrap64 (x10_1 + 1)) l0_0 l0_1 l1_0 l1_1) = some r:=by rw [if_neg (show ¬ (false = true) by decide)] at H;exact H
      clear H
      have H:=H1
      clear H1
      have H':=Aside0.mk H
      clear H
      have hnb16:=NB529_530.out
      have hnc16:=NB530_529.out
      have hcz17_0:wr.cell? ⟨gb529,0,none⟩ = some (.slice A0_0 l0_0.length c0_0):=(blk_cell BK529.out 0).trans rfl
      have hcz17_1:wr.cell? ⟨gb529,1,none⟩ = some (.slice A0_1 l0_1.length c0_1):=(blk_cell BK529.out 1).trans rfl
      have hfz17_0:=blk_frozen BK529.out 0
      have hfz17_1:=blk_frozen BK529.out 1
      go_wp2_with (first|((with_reducible refine gate_callee (f:=27) rfl ?_);refine goesL_ (some 15) rfl rfl Try.func27 (by kernel_rfl) rfl #[.agg #[.slice A0_0 l0_0.length c0_0,.slice A0_1 l0_1.length c0_1],.int .i64 x10_1] rfl (by (try simp only [List.map_toArray,List.map_cons,List.map_nil]);first|done|rfl|(simp only [List.length_drop,List.length_take];rfl)) ?_;(with_reducible refine (impl_set_has.calls _ _ l0_0 _ _ l0_1 x10_1 true _ ?side1 ?side2 ?side3 ?side4 A7.out).mono ?_);(case side1=>repeat (first|exact (Kd.C_below HR0_0.out HB.out)|(with_reducible refine Kd.C_alloc ?_ _)|(with_reducible refine Kd.C_drewN ?_ _)|(with_reducible refine Kd.C_drew ?_)));(case side2=>exact HC0_0.out);(case side3=>repeat (first|exact (Kd.C_below HR0_1.out HB.out)|(with_reducible refine Kd.C_alloc ?_ _)|(with_reducible refine Kd.C_drewN ?_ _)|(with_reducible refine Kd.C_drew ?_)));(case side4=>exact HC0_1.out);rintro e w18 ⟨rfl,hb⟩;refine ⟨_,rfl,?_⟩;have n0_:=Aside0.mk (blk_below (g:=gb529) (o:=.cells #[.slice A0_0 l0_0.length c0_0,.slice A0_1 l0_1.length c0_1] 43 (0,0)) (by (with_reducible repeat (first|refine blk_drewN ?_ _|refine blk_drew ?_|refine blk_alloc ?_ _));exact BK529.out) hb);have n1_:=Aside0.mk (blk_below (g:=gb530) (o:=.cells #[.slice A1_0 l1_0.length c1_0,.slice A1_1 l1_1.length c1_1] 43 (0,0)) (by (with_reducible repeat (first|refine blk_drewN ?_ _|refine blk_drew ?_|refine blk_alloc ?_ _));exact BK530.out) hb);have n2_:=Aside0.mk (below_step (by repeat (first|(with_reducible first|exact HB.out|apply below_alloc|apply pw_below_drewN|apply below_drew1|refine below_set ?_ GE529.out|refine below_set ?_ GE530.out)|exact HB.out)) hb);clear BK529;clear BK530;clear HB;have BK529:=n0_;have BK530:=n1_;have HB:=n2_;clear n0_ n1_ n2_;(try clear hb);(try clear hb2);(try clear hk);(try clear hi);have hcz19_0:w18.cell? ⟨gb530,0,none⟩ = some (.slice A1_0 l1_0.length c1_0):=(blk_cell BK530.out 0).trans rfl;have hcz19_1:w18.cell? ⟨gb530,1,none⟩ = some (.slice A1_1 l1_1.length c1_1):=(blk_cell BK530.out 1).trans rfl;have hfz19_0:=blk_frozen BK530.out 0;have hfz19_1:=blk_frozen BK530.out 1)|(go_at_call 27;(with_reducible refine (impl_set_has.calls _ _ l1_0 _ _ l1_1 (wrap64 (a2 - x10_1)) false _ ?side1 ?side2 ?side3 ?side4 A9.out).mono ?_);(case side1=>repeat (first|exact (Kd.C_below HR1_0.out HB.out)|(with_reducible refine Kd.C_alloc ?_ _)|(with_reducible refine Kd.C_drewN ?_ _)|(with_reducible refine Kd.C_drew ?_)));(case side2=>exact HC1_0.out);(case side3=>repeat (first|exact (Kd.C_below HR1_1.out HB.out)|(with_reducible refine Kd.C_alloc ?_ _)|(with_reducible refine Kd.C_drewN ?_ _)|(with_reducible refine Kd.C_drew ?_)));(case side4=>exact HC1_1.out);rintro e w20 ⟨rfl,hb⟩;have n0_:=Aside0.mk (blk_below (g:=gb529) (o:=.cells #[.slice A0_0 l0_0.length c0_0,.slice A0_1 l0_1.length c0_1] 43 (0,0)) (by (with_reducible repeat (first|refine blk_drewN ?_ _|refine blk_drew ?_|refine blk_alloc ?_ _));exact BK529.out) hb);have n1_:=Aside0.mk (blk_below (g:=gb530) (o:=.cells #[.slice A1_0 l1_0.length c1_0,.slice A1_1 l1_1.length c1_1] 43 (0,0)) (by (with_reducible repeat (first|refine blk_drewN ?_ _|refine blk_drew ?_|refine blk_alloc ?_ _));exact BK530.out) hb);have n2_:=Aside0.mk (below_step (by repeat (first|(with_reducible first|exact HB.out|apply below_alloc|apply pw_below_drewN|apply below_drew1|refine below_set ?_ GE529.out|refine below_set ?_ GE530.out)|exact HB.out)) hb);clear BK529;clear BK530;clear HB;have BK529:=n0_;have BK530:=n1_;have HB:=n2_;clear n0_ n1_ n2_;(try clear hb);(try clear hb2);(try clear hk);(try clear hi)))
      go_roundg k1
      case measure=>have:=HK1.out;omega
      case rel=>exact ⟨(wrap64 (x10_1 + 1)),(by first|rfl|(simp;done)|(simp [*];done)|(simp [Int.tmod_eq_emod_of_nonneg];done)),H',⟨by have:=HK1.out;omega⟩,⟨by (with_reducible repeat (first|refine blk_drewN ?_ _|refine blk_drew ?_|refine blk_alloc ?_ _));exact BK529.out⟩,⟨by (with_reducible repeat (first|refine blk_drewN ?_ _|refine blk_drew ?_|refine blk_alloc ?_ _));exact BK530.out⟩,⟨by repeat (first|(with_reducible first|exact HB.out|apply below_alloc|apply pw_below_drewN|apply below_drew1|refine below_set ?_ GE529.out|refine below_set ?_ GE530.out)|exact HB.out)⟩⟩
    ·replace c8:=Bool.eq_false_iff.mpr c8
     subst c8
     have H1:(impl_sums.l0 k1 a2 (wrap64 (a2 + 1)) (wrap64 (x10_1 + 1)) l0_0 l0_1 l1_0 l1_1) = some r:=by rw [if_neg (show ¬ (false = true) by decide)] at H;exact H
     clear H
     have H:=H1
     clear H1
     have H':=Aside0.mk H
     clear H
     have hnb21:=NB529_530.out
     have hnc21:=NB530_529.out
     have hcz22_0:wr.cell? ⟨gb529,0,none⟩ = some (.slice A0_0 l0_0.length c0_0):=(blk_cell BK529.out 0).trans rfl
     have hcz22_1:wr.cell? ⟨gb529,1,none⟩ = some (.slice A0_1 l0_1.length c0_1):=(blk_cell BK529.out 1).trans rfl
     have hfz22_0:=blk_frozen BK529.out 0
     have hfz22_1:=blk_frozen BK529.out 1
     go_wp2_with (first|((with_reducible refine gate_callee (f:=27) rfl ?_);refine goesL_ (some 15) rfl rfl Try.func27 (by kernel_rfl) rfl #[.agg #[.slice A0_0 l0_0.length c0_0,.slice A0_1 l0_1.length c0_1],.int .i64 x10_1] rfl (by (try simp only [List.map_toArray,List.map_cons,List.map_nil]);first|done|rfl|(simp only [List.length_drop,List.length_take];rfl)) ?_;(with_reducible refine (impl_set_has.calls _ _ l0_0 _ _ l0_1 x10_1 false _ ?side1 ?side2 ?side3 ?side4 A7.out).mono ?_);(case side1=>repeat (first|exact (Kd.C_below HR0_0.out HB.out)|(with_reducible refine Kd.C_alloc ?_ _)|(with_reducible refine Kd.C_drewN ?_ _)|(with_reducible refine Kd.C_drew ?_)));(case side2=>exact HC0_0.out);(case side3=>repeat (first|exact (Kd.C_below HR0_1.out HB.out)|(with_reducible refine Kd.C_alloc ?_ _)|(with_reducible refine Kd.C_drewN ?_ _)|(with_reducible refine Kd.C_drew ?_)));(case side4=>exact HC0_1.out);rintro e w23 ⟨rfl,hb⟩;refine ⟨_,rfl,?_⟩;have n0_:=Aside0.mk (blk_below (g:=gb529) (o:=.cells #[.slice A0_0 l0_0.length c0_0,.slice A0_1 l0_1.length c0_1] 43 (0,0)) (by (with_reducible repeat (first|refine blk_drewN ?_ _|refine blk_drew ?_|refine blk_alloc ?_ _));exact BK529.out) hb);have n1_:=Aside0.mk (blk_below (g:=gb530) (o:=.cells #[.slice A1_0 l1_0.length c1_0,.slice A1_1 l1_1.length c1_1] 43 (0,0)) (by (with_reducible repeat (first|refine blk_drewN ?_ _|refine blk_drew ?_|refine blk_alloc ?_ _));exact BK530.out) hb);have n2_:=Aside0.mk (below_step (by repeat (first|(with_reducible first|exact HB.out|apply below_alloc|apply pw_below_drewN|apply below_drew1|refine below_set ?_ GE529.out|refine below_set ?_ GE530.out)|exact HB.out)) hb);clear BK529;clear BK530;clear HB;have BK529:=n0_;have BK530:=n1_;have HB:=n2_;clear n0_ n1_ n2_;(try clear hb);(try clear hb2);(try clear hk);(try clear hi)))
     go_roundg k1
     case measure=>have:=HK1.out;omega
     case rel=>exact ⟨(wrap64 (x10_1 + 1)),(by first|rfl|(simp;done)|(simp [*];done)|(simp [Int.tmod_eq_emod_of_nonneg];done)),H',⟨by have:=HK1.out;omega⟩,⟨by (with_reducible repeat (first|refine blk_drewN ?_ _|refine blk_drew ?_|refine blk_alloc ?_ _));exact BK529.out⟩,⟨by (with_reducible repeat (first|refine blk_drewN ?_ _|refine blk_drew ?_|refine blk_alloc ?_ _));exact BK530.out⟩,⟨by repeat (first|(with_reducible first|exact HB.out|apply below_alloc|apply pw_below_drewN|apply below_drew1|refine below_set ?_ GE529.out|refine below_set ?_ GE530.out)|exact HB.out)⟩⟩
   ·rw [if_neg c6] at H
    have c6b0:decide (x10_1 < (wrap64 (a2 + 1))) = false:=decide_eq_false c6
    clear c6
    obtain rfl:=Option.some.inj H
    go_wp2
    go_ret
    exact ⟨by first|rfl|(simp [errW_none,errW_some] <;> rfl)|(simp [*,errW_none,errW_some] <;> rfl)|(simp [errW_none,errW_some];exact ⟨rfl,rfl⟩),by repeat (first|(with_reducible first|exact HB.out|apply below_alloc|apply pw_below_drewN|apply below_drew1|refine below_set ?_ GE529.out|refine below_set ?_ GE530.out)|exact HB.out)⟩

end Go.Proofs.Yticdcfgjpopkoaa.P

namespace Go.Proofs.Yticdcfgjpopkoaa.P
open Go.RowKit Go.Proofs.YticdcfgjpopkoaaW.PrintWords Go.Proofs.YticdcfgjpopkoaaW.PrintLast Go.Proofs.YticdcfgjpopkoaaW.PrintMore
attribute [local go_sem] max2_int min2_int max_two min_two max_three min_three max_four min_four   -- for this text's walks alone
set_option linter.unusedVariables false
set_option linter.unusedSimpArgs false

/-! ### spec_DrawSumOf: function 17 -/
def spec_DrawSumOf.f (k:Nat) (l0:List Int):Option (ByteArray × ByteArray):=(spec_l6Open.f l0).bind fun bt522=>((spec_l91Set.f k bt522.1 bt522.2).bind fun bt525=>((spec_l91Set.f k bt522.1 bt525.2).bind fun bt527=>(some (bt525.1,bt527.1))))
theorem spec_DrawSumOf.mono:∀ a0 k,LeO (spec_DrawSumOf.f k a0) (spec_DrawSumOf.f (k + 1) a0):=by
 intro a0 k
 unfold spec_DrawSumOf.f
 repeat' first
   | (with_reducible exact spec_l91Set.mono _ _ _)
   | (with_reducible exact LeO.refl _)
   | (with_reducible exact LeO.none _)
   | (with_reducible refine LeO.ite ?_ ?_)
   | (with_reducible refine LeO.bind ?_ (fun _=>?_))
   | exact spec_l91Set.mono _ _ _
   | exact LeO.none _
   | refine LeO.ite ?_ ?_
   | refine LeO.bind ?_ (fun _=>?_)
set_option maxHeartbeats 8000000 in
set_option maxRecDepth 100000 in
theorem spec_DrawSumOf.calls (k:Nat) (A0:Option Addr) (c0:Nat) (l0:List Int) (r1:ByteArray) (r2:ByteArray) (w:World) (hr0:Kd.C (Kd.int .u8) w A0 l0.length l0) (hc0:l0.length≤c0) (h:spec_DrawSumOf.f k l0 = some (r1,r2)) :
  Calls Try.prog 17 #[.slice A0 l0.length c0] w fun e w'=>e = .returned (.tuple #[.string r1,.string r2])∧Below w.heap.size w w':=by
 have HR0:=Aside0.mk hr0
 have HC0:=Aside0.mk hc0
 clear hr0 hc0
 have HB:=Aside0.mk (Below.refl w.heap.size w)
 have H:((spec_l6Open.f l0).bind fun bt522=>((spec_l91Set.f k bt522.1 bt522.2).bind fun bt525=>((spec_l91Set.f k bt522.1 bt525.2).bind fun bt527=>(some (bt525.1,bt527.1))))) = some (r1,r2):=h
 clear h
 replace H:=Option.bind_eq_some_iff.mp H
 obtain ⟨⟨t522,t523⟩,A20,H⟩:=H
 replace H:((spec_l91Set.f k t522 t523).bind fun bt525=>((spec_l91Set.f k t522 bt525.2).bind fun bt527=>(some (bt525.1,bt527.1)))) = some (r1,r2):=H
 have A2:=Aside0.mk A20
 clear A20
 replace H:=Option.bind_eq_some_iff.mp H
 obtain ⟨⟨t525,t526⟩,A30,H⟩:=H
 replace H:((spec_l91Set.f k t522 t526).bind fun bt527=>(some (t525,bt527.1))) = some (r1,r2):=H
 have A3:=Aside0.mk A30
 clear A30
 replace H:=Option.bind_eq_some_iff.mp H
 obtain ⟨⟨t527,t528⟩,A40,H⟩:=H
 replace H:(some (t525,t527)) = some (r1,r2):=H
 have A4:=Aside0.mk A40
 clear A40
 simp only [Option.some.injEq,Prod.mk.injEq] at H
 obtain ⟨rfl,rfl⟩:=H
 go_enter Try.func17,Try.ntmps17
 go_wp2_with (first|((with_reducible refine gate_callee (f:=20) rfl ?_);refine goesL_ (some 6) rfl rfl Try.func20 (by kernel_rfl) rfl #[.slice A0 l0.length c0] rfl (by (try simp only [List.map_toArray,List.map_cons,List.map_nil]);first|done|rfl|(simp only [List.length_drop,List.length_take];rfl)) ?_;(with_reducible refine (spec_l6Open.calls _ _ l0 t522 t523 w _ ?side1 ?side2 ?side3 A2.out).mono ?_);(case side1=>repeat (first|(with_reducible first|exact HB.out|apply below_alloc|apply pw_below_drewN|apply below_drew1)|exact HB.out));(case side2=>exact HR0.out);(case side3=>exact HC0.out);rintro e w5 ⟨g524,rfl,hi,hb,hb2⟩;refine ⟨_,rfl,?_⟩;have n0_:=Aside0.mk (hb);have n1_:=Aside0.mk (hi);clear HB;have HB:=n0_;have HI524:=n1_;clear n0_ n1_;(try clear hb);(try clear hb2);(try clear hk);(try clear hi))|((with_reducible refine gate_callee (f:=21) rfl ?_);refine goesL_ (some 8) rfl rfl Try.func21 (by kernel_rfl) rfl #[.pointer (some ⟨g524,0,none⟩)] rfl (by (try simp only [List.map_toArray,List.map_cons,List.map_nil]);first|done|rfl|(simp only [List.length_drop,List.length_take];rfl)) ?_;(with_reducible refine (spec_l91Set.calls k g524 t522 t523 t525 t526 w _ ?side1 ?side2 A3.out).mono ?_);(case side1=>repeat (first|(with_reducible first|exact HI524.out|apply IsS67.alloc|apply IsS67.drewN|apply IsS67.drew|apply IsS67.set_1)|exact HI524.out));(case side2=>repeat (first|(with_reducible first|exact HB.out|apply below_alloc|apply pw_below_drewN|apply below_drew1|refine below_set ?_ (IsS67.ge HI524.out))|exact HB.out));rintro e w6 ⟨rfl,hi,hb,hk⟩;refine ⟨_,rfl,?_⟩;have n0_:=Aside0.mk (hb);have n1_:=Aside0.mk (hi);clear HB;clear HI524;have HB:=n0_;have HI524:=n1_;clear n0_ n1_;(try clear hb);(try clear hb2);(try clear hk);(try clear hi))|((with_reducible refine gate_callee (f:=21) rfl ?_);refine goesL_ (some 10) rfl rfl Try.func21 (by kernel_rfl) rfl #[.pointer (some ⟨g524,0,none⟩)] rfl (by (try simp only [List.map_toArray,List.map_cons,List.map_nil]);first|done|rfl|(simp only [List.length_drop,List.length_take];rfl)) ?_;(with_reducible refine (spec_l91Set.calls k g524 t522 t526 t527 t528 w _ ?side1 ?side2 A4.out).mono ?_);(case side1=>repeat (first|(with_reducible first|exact HI524.out|apply IsS67.alloc|apply IsS67.drewN|apply IsS67.drew|apply IsS67.set_1)|exact HI524.out));(case side2=>repeat (first|(with_reducible first|exact HB.out|apply below_alloc|apply pw_below_drewN|apply below_drew1|refine below_set ?_ (IsS67.ge HI524.out))|exact HB.out));rintro e w7 ⟨rfl,hi,hb,hk⟩;refine ⟨_,rfl,?_⟩;have n0_:=Aside0.mk (hb);have n1_:=Aside0.mk (hi);clear HB;clear HI524;have HB:=n0_;have HI524:=n1_;clear n0_ n1_;(try clear hb);(try clear hb2);(try clear hk);(try clear hi)))
 go_ret2
 exact ⟨by first|rfl|(simp [errW_none,errW_some] <;> rfl)|(simp [*,errW_none,errW_some] <;> rfl)|(simp [errW_none,errW_some];exact ⟨rfl,rfl⟩),by repeat (first|(with_reducible first|exact HB.out|apply below_alloc|apply pw_below_drewN|apply below_drew1|refine below_set ?_ (IsS67.ge HI524.out))|exact HB.out)⟩

end Go.Proofs.Yticdcfgjpopkoaa.P

-- What SumOf and SumDouble answer, where they do.
namespace Go.Proofs.Yticdcfgjpopkoaa.P
open Go.RowKit Go.Proofs.YticdcfgjpopkoaaW.PrintWords Go.Proofs.YticdcfgjpopkoaaW.PrintLast Go.Proofs.YticdcfgjpopkoaaW.PrintMore
set_option linter.unusedVariables false
set_option linter.unusedSimpArgs false

theorem smr_ok {s t : List UInt8} (h : (smr s t).2 = true) : ∃ m p, 0 < p ∧ Per (sumq (setf s) (setf t)) m p ∧ smr s t = txt (cn (sumq (setf s) (setf t))) ∧ (txt (cn (sumq (setf s) (setf t)))).2 = true := by
  unfold smr at h ⊢
  obtain ⟨hc, hA⟩ := ite_ok h
  rw [if_pos hc]
  rw [Bool.and_eq_true] at hc
  obtain ⟨a, c, hp, hset, hm1, hm2, hpos, hper⟩ := smallB_ok hc.1
  obtain ⟨a2, c2, hp2, hset2, hm3, hm4, hpos2, hper2⟩ := smallB_ok hc.2
  exact ⟨_, _, Nat.lcm_pos hpos hpos2, sumq_per (hper.dvd (Nat.dvd_lcm_left _ _)) (hper2.dvd (Nat.dvd_lcm_right _ _)), rfl, hA⟩
theorem smr_small {s t : List UInt8} (h : (smr s t).2 = true) : smallB s = true ∧ smallB t = true := by
  unfold smr at h
  exact Bool.and_eq_true_iff.1 (ite_ok h).1
theorem smr_comm (s t : List UInt8) : smr s t = smr t s := by
  unfold smr
  rw [Bool.and_comm, sumq_comm]
theorem smr_sz (s t : List UInt8) : (smr s t).1.size ≤ 122 := by
  unfold smr
  split
  · exact txt_size _
  · show (0 : Nat) ≤ 122; omega
theorem dbr_ok {s : List UInt8} (h : (dbr s).2 = true) : ∃ m p, 0 < p ∧ Per (dblq (setf s)) m p ∧ dbr s = txt (cn (dblq (setf s))) ∧ (txt (cn (dblq (setf s)))).2 = true := by
  unfold dbr at h ⊢
  obtain ⟨hc, hA⟩ := ite_ok h
  rw [if_pos hc]
  obtain ⟨a, c, hp, hset, hm1, hm2, hpos, hper⟩ := smallB_ok hc
  exact ⟨_, _, hpos, dblq_per hper, rfl, hA⟩
end Go.Proofs.Yticdcfgjpopkoaa.P

-- Two sets made one: what the laws need.
namespace Go.Proofs.Yticdcfgjpopkoaa.P
open Go.RowKit Go.Proofs.YticdcfgjpopkoaaW.PrintWords Go.Proofs.YticdcfgjpopkoaaW.PrintLast Go.Proofs.YticdcfgjpopkoaaW.PrintMore
set_option linter.unusedVariables false
set_option linter.unusedSimpArgs false

theorem two_ok {op : Bool → Bool → Bool} {s t : List UInt8} (h : (two op s t).2 = true) : ∃ m p, 0 < p ∧ Per (fun n => op (setf s n) (setf t n)) m p ∧ two op s t = txt (cn fun n => op (setf s n) (setf t n)) ∧ (txt (cn fun n => op (setf s n) (setf t n))).2 = true := by
  unfold two at h ⊢
  obtain ⟨hc, hA⟩ := ite_ok h
  rw [if_pos hc]
  rw [Bool.and_eq_true] at hc
  obtain ⟨⟨a, b⟩, hp⟩ := Option.isSome_iff_exists.1 hc.1
  obtain ⟨⟨c, d⟩, hp2⟩ := Option.isSome_iff_exists.1 hc.2
  have q1 := parse_some hp
  have q2 := parse_some hp2
  refine ⟨max a.length c.length, Nat.lcm b.length d.length, Nat.lcm_pos (List.length_pos_iff.2 q1.2.2) (List.length_pos_iff.2 q2.2.2), ?_, rfl, hA⟩
  rw [setf_some hp, setf_some hp2]
  exact pair_per ((hasB_per a b).lcm_left _ _) ((hasB_per c d).lcm_right _ _) op
end Go.Proofs.Yticdcfgjpopkoaa.P

-- impl.sums asks all parts.
namespace Go.Proofs.Yticdcfgjpopkoaa.P
open Go.RowKit Go.Proofs.YticdcfgjpopkoaaW.PrintWords Go.Proofs.YticdcfgjpopkoaaW.PrintLast Go.Proofs.YticdcfgjpopkoaaW.PrintMore
set_option linter.unusedVariables false
set_option linter.unusedSimpArgs false

theorem sums_l0 (a b c d : List Bool) (hb : b ≠ []) (hd : d ≠ []) (h1 : a.length ≤ 60) (h2 : b.length ≤ 60) (h3 : c.length ≤ 60) (h4 : d.length ≤ 60) (n : Nat) (hn : n ≤ 100000) : ∀ (e i : Nat), i ≤ n + 1 → n + 1 - i = e →
    Ev (fun k => impl_sums.l0 k n ((n + 1 : Nat) : Int) i a b c d) (dec (∃ k, i ≤ k ∧ k ≤ n ∧ hasB a b k = true ∧ hasB c d (n - k) = true)) := by
  intro e
  induction e with
  | zero =>
    intro i hi he
    rw [dec_false (fun ⟨m, x, y, _⟩ => by omega)]
    refine Ev.step (f := fun k => some false) (fun k => ?_) (Ev.now _)
    simp only [impl_sums.l0]; rw [if_neg (by omega)]
  | succ e ih =>
    intro i hi he
    have c1 : (i : Int) < ((n + 1 : Nat) : Int) := by omega
    have c3 : i ≤ 4611686018427387904 := by omega
    have c4 : i ≤ n := by omega
    have c5 : n ≤ 4611686018427387904 := by omega
    have e1 := ihas_f a b hb (by omega) i (by omega)
    have e2 := ihas_f c d hd (by omega) (n - i) (by omega)
    have hih := ih (i + 1) (by omega) (by omega)
    by_cases hbad : hasB a b i = true ∧ hasB c d (n - i) = true
    · rw [dec_true ⟨i, Nat.le_refl _, c4, hbad⟩]
      refine Ev.step (f := fun k => some true) (fun k => ?_) (Ev.now _)
      simp only [impl_sums.l0]
      rw [if_pos c1, e1, hbad.1, Option.bind_some, if_pos rfl, wsub c4 c5, e2, hbad.2, Option.bind_some, if_pos rfl]
    · have hc : dec (∃ k, i ≤ k ∧ k ≤ n ∧ hasB a b k = true ∧ hasB c d (n - k) = true) = dec (∃ k, i + 1 ≤ k ∧ k ≤ n ∧ hasB a b k = true ∧ hasB c d (n - k) = true) := dec_congr ⟨fun ⟨m, x, y, z⟩ => by
        rcases Nat.eq_or_lt_of_le x with rfl | x
        · exact absurd z hbad
        · exact ⟨m, x, y, z⟩, fun ⟨m, x, y, z⟩ => ⟨m, by omega, y, z⟩⟩
      rw [hc]
      refine Ev.step (fun k => ?_) hih
      simp only [impl_sums.l0]
      rw [if_pos c1, e1, Option.bind_some]
      cases hx : hasB a b i with
      | false => rw [if_neg (by decide), wsucc c3]
      | true =>
        have hy : hasB c d (n - i) = false := by
          cases hz : hasB c d (n - i) with
          | false => rfl
          | true => exact absurd ⟨hx, hz⟩ hbad
        rw [if_pos rfl, wsub c4 c5, e2, hy, Option.bind_some, if_neg (by decide), wsucc c3]
theorem sums_f (a b c d : List Bool) (hb : b ≠ []) (hd : d ≠ []) (h1 : a.length ≤ 60) (h2 : b.length ≤ 60) (h3 : c.length ≤ 60) (h4 : d.length ≤ 60) (n : Nat) (hn : n ≤ 100000) : Ev (fun k => impl_sums.f k a b c d n) (sumq (hasB a b) (hasB c d) n) := by
  have h := sums_l0 a b c d hb hd h1 h2 h3 h4 n hn _ 0 (Nat.zero_le _) rfl
  have e : dec (∃ k, 0 ≤ k ∧ k ≤ n ∧ hasB a b k = true ∧ hasB c d (n - k) = true) = sumq (hasB a b) (hasB c d) n := dec_congr ⟨fun ⟨k, _, h⟩ => ⟨k, h⟩, fun ⟨k, h⟩ => ⟨k, Nat.zero_le _, h⟩⟩
  rw [e] at h
  refine Ev.congr (fun k => ?_) h
  unfold impl_sums.f
  rw [wsucc (by omega)]; rfl
end Go.Proofs.Yticdcfgjpopkoaa.P

-- impl.SumOf: the sum of two small sets.
namespace Go.Proofs.Yticdcfgjpopkoaa.P
open Go.RowKit Go.Proofs.YticdcfgjpopkoaaW.PrintWords Go.Proofs.YticdcfgjpopkoaaW.PrintLast Go.Proofs.YticdcfgjpopkoaaW.PrintMore
set_option linter.unusedVariables false
set_option linter.unusedSimpArgs false

noncomputable def impl_SumOf.f (s t : ByteArray) : Option (ByteArray × Bool) := if s.size ≤ 70368744177664 ∧ t.size ≤ 70368744177664 then some (smr (chrs s) (chrs t)) else none
theorem sumOf_f (s t : ByteArray) (hs : s.size ≤ 70368744177664) (ht : t.size ≤ 70368744177664) : impl_SumOf.f s t = some (smr (chrs s) (chrs t)) := by unfold impl_SumOf.f; rw [if_pos ⟨hs, ht⟩]

set_option maxHeartbeats 8000000 in
set_option maxRecDepth 100000 in
theorem sumOf_q_calls (b1 b2 : Nat)
    (x y x2 y2 : List Bool) (hy : y ≠ []) (hy2 : y2 ≠ []) (hl : x.length ≤ 60 ∧ y.length ≤ 60) (hl2 : x2.length ≤ 60 ∧ y2.length ≤ 60) (A0 : Option Addr) (c0 : Nat) (A1 : Option Addr) (c1 : Nat) (A2 : Option Addr) (c2 : Nat) (A3 : Option Addr) (c3 n : Nat) (hn : n ≤ 100000) (W : World)
    (hx0 : W.cell? ⟨b1, 0, none⟩ = some (.slice A0 x.length c0)) (hx1 : W.cell? ⟨b1, 1, none⟩ = some (.slice A1 y.length c1)) (hx2 : W.cell? ⟨b2, 0, none⟩ = some (.slice A2 x2.length c2)) (hx3 : W.cell? ⟨b2, 1, none⟩ = some (.slice A3 y2.length c3))
    (hC0 : Kd.C Kd.bool W A0 x.length x) (hc0 : x.length ≤ c0) (hC1 : Kd.C Kd.bool W A1 y.length y) (hc1 : y.length ≤ c1) (hC2 : Kd.C Kd.bool W A2 x2.length x2) (hc2 : x2.length ≤ c2) (hC3 : Kd.C Kd.bool W A3 y2.length y2) (hc3 : y2.length ≤ c3) :
    Calls Try.prog 42 #[.int .i64 n, .pointer (some ⟨b1, 0, none⟩), .pointer (some ⟨b2, 0, none⟩)] W fun e w' => e = .returned (.bool (sumq (hasB x y) (hasB x2 y2) n)) ∧ Below W.heap.size W w' := by
  have hu := Try.underlying43
  obtain ⟨k, hk⟩ := (sums_f x y x2 y2 hy hy2 hl.1 hl.2 hl2.1 hl2.2 n hn).rounds
  have HC1 := fun (W' : World) (hw : Below W.heap.size W W') => Aside0.mk (impl_sums.calls k A0 c0 x A1 c1 y A2 c2 x2 A3 c3 y2 (n : Int) _ W' (Kd.C_below hC0 hw) hc0 (Kd.C_below hC1 hw) hc1 (Kd.C_below hC2 hw) hc2 (Kd.C_below hC3 hw) hc3 hk)
  generalize sumq (hasB x y) (hasB x2 y2) n = p at *
  clear hC0 hC1 hC2 hC3 hc0 hc1 hc2 hc3 hl hl2 hy hy2 hn hk
  go_enter Try.func42, Try.ntmps42
  go_wp2_with (go_at_call 43; refine (HC1 _ (by repeat (first | exact Below.refl _ _ | apply below_drew1))).out.mono ?_; rintro e w1 ⟨rfl, hd⟩)
  go_ret
  exact ⟨rfl, hd⟩

set_option maxHeartbeats 8000000 in
set_option maxRecDepth 100000 in
theorem impl_SumOf.calls (s t : ByteArray) (r1 : ByteArray) (r2 : Bool) (w : World) (h : impl_SumOf.f s t = some (r1, r2)) :
    Calls Try.prog 19 #[.string s, .string t] w fun e w' => e = .returned (.tuple #[.string r1, .bool r2]) ∧ Below w.heap.size w w' := by
  unfold impl_SumOf.f at h
  split at h
  rotate_left
  · cases h
  rename_i hst
  obtain ⟨hs, ht⟩ := hst
  simp only [Option.some.injEq] at h
  have hR : r1 = (smr (chrs s) (chrs t)).1 ∧ r2 = (smr (chrs s) (chrs t)).2 := by rw [h]; exact ⟨rfl, rfl⟩
  obtain ⟨rfl, rfl⟩ := hR
  clear h
  obtain ⟨x, y, hev, hxy⟩ := small_f s hs
  obtain ⟨x2, y2, hev2, hxy2⟩ := small_f t ht
  obtain ⟨k, hk⟩ := hev.rounds
  obtain ⟨k2, hk2⟩ := hev2.rounds
  have hu := Try.underlying43
  clear hev hev2
  have key : ∀ (b b2 : Bool), smallB (chrs s) = b → smallB (chrs t) = b2 → Calls Try.prog 19 #[.string s, .string t] w fun e w' => e = .returned (.tuple #[.string (smr (chrs s) (chrs t)).1, .bool (smr (chrs s) (chrs t)).2]) ∧ Below w.heap.size w w' := by
    intro b b2 hb hb2
    rw [hb] at hk
    rw [hb2] at hk2
    have HK := fun w => Aside0.mk (impl_small.calls k s x y b w hk)
    have HK2 := fun w => Aside0.mk (impl_small.calls k2 t x2 y2 b2 w hk2)
    by_cases hall : b = true ∧ b2 = true
    · obtain ⟨rfl, rfl⟩ := hall
      obtain ⟨a, c, hp, hset, hm1, hm2, hpos, hper⟩ := smallB_ok hb
      obtain ⟨a2, c2, hp2, hset2, hm3, hm4, hpos2, hper2⟩ := smallB_ok hb2
      obtain ⟨rfl, rfl⟩ := hxy (by rw [hp]; rfl)
      obtain ⟨rfl, rfl⟩ := hxy2 (by rw [hp2]; rfl)
      have e : smr (chrs s) (chrs t) = txt (cn (sumq (setf (chrs s)) (setf (chrs t)))) := by
        unfold smr; rw [hb, hb2]; rfl
      rw [e]
      have hh1 : hasB (cn (setf (chrs s))).1 (cn (setf (chrs s))).2 = setf (chrs s) := by rw [hset]; exact cn_has (parse_per hp).1 (parse_per hp).2
      have hh2 : hasB (cn (setf (chrs t))).1 (cn (setf (chrs t))).2 = setf (chrs t) := by rw [hset2]; exact cn_has (parse_per hp2).1 (parse_per hp2).2
      generalize (cn (setf (chrs s))).1 = x at *
      generalize (cn (setf (chrs s))).2 = y at *
      generalize (cn (setf (chrs t))).1 = x2 at *
      generalize (cn (setf (chrs t))).2 = y2 at *
      obtain ⟨k3, hk3⟩ := (lcm_f y.length y2.length (by omega) (by omega) hpos).rounds
      have hL := lcm_le8 hpos hpos2 hm2 hm4
      have hL0 : 0 < Nat.lcm y.length y2.length := Nat.lcm_pos hpos hpos2
      have hper3 : Per (sumq (setf (chrs s)) (setf (chrs t))) 200 (Nat.lcm y.length y2.length) := (sumq_per (hper.dvd (Nat.dvd_lcm_left _ _)) (hper2.dvd (Nat.dvd_lcm_right _ _))).mono (by omega)
      rw [← hh1, ← hh2] at hper3 ⊢
      have eg : ∀ args w, (callFunc 42 args).run Try.prog w = .ok (.enter 42 args) w := enters_of Try.func42 (by kernel_rfl) rfl
      have HM := fun (lb : Array Value) (w : World) => Aside0.mk (made_calls (sumq (hasB x y) (hasB x2 y2)) 200 (Nat.lcm y.length y2.length) hL0 hper3 (by omega) 42 lb w eg)
      have HQ := Aside0.mk (show ((x.length ≤ 8 ∧ y.length ≤ 8) ∧ y ≠ []) ∧ ((x2.length ≤ 8 ∧ y2.length ≤ 8) ∧ y2 ≠ []) from ⟨⟨⟨hm1, hm2⟩, List.length_pos_iff.1 hpos⟩, ⟨⟨hm3, hm4⟩, List.length_pos_iff.1 hpos2⟩⟩)
      have HLL := Aside0.mk hL
      have HK3 := fun w => Aside0.mk (impl_lcm.calls k3 (y.length : Int) (y2.length : Int) _ w hk3)
      generalize Nat.lcm y.length y2.length = L at *
      clear hb hb2 hp hp2 hxy hxy2 hk hk2 hper hper2 hper3 eg hpos hpos2 hL hL0 e hh1 hh2 hset hset2 hm1 hm2 hm3 hm4 hk3
      go_enter Try.func19, Try.ntmps19
      go_wp2_with (first
        | (go_at_call 29; with_reducible refine (HK _).out.mono ?_; rintro e w1 ⟨v0_, v1_, rfl, hR0, hR1, hb1⟩; obtain ⟨A0, n0, rfl, hn0, hC0⟩ := Kd.R_reads hR0; obtain ⟨A1, n1, rfl, hn1, hC1⟩ := Kd.R_reads hR1; have C0 := Aside0.mk hC0; have C1 := Aside0.mk hC1; have N0 := Aside0.mk hn0; have N1 := Aside0.mk hn1; clear hR0 hR1 hC0 hC1 hn0 hn1; have HB := Aside0.mk hb1; clear hb1)
        | (go_at_call 29; with_reducible refine (HK2 _).out.mono ?_; rintro e w2 ⟨v2_, v3_, rfl, hR0, hR1, hb2⟩; obtain ⟨A2, n2, rfl, hn2, hC2⟩ := Kd.R_reads hR0; obtain ⟨A3, n3, rfl, hn3, hC3⟩ := Kd.R_reads hR1; have C2 := Aside0.mk hC2; have C3 := Aside0.mk hC3; have N2 := Aside0.mk hn2; have N3 := Aside0.mk hn3; clear hR0 hR1 hC2 hC3 hn2 hn3; have HB12 := Aside0.mk (below_step (below_alloc (Below.refl w1.heap.size w1) _) hb2); have e0 := (hb2.cell (p := ⟨w1.heap.size, 0, none⟩) (by simp)).trans (by simp : (w1.alloc (.cells #[.slice A0 x.length n0, .slice A1 y.length n1] _)).cell? ⟨w1.heap.size, 0, none⟩ = some (.slice A0 x.length n0)); have e1 := (hb2.cell (p := ⟨w1.heap.size, 1, none⟩) (by simp)).trans (by simp : (w1.alloc (.cells #[.slice A0 x.length n0, .slice A1 y.length n1] _)).cell? ⟨w1.heap.size, 1, none⟩ = some (.slice A1 y.length n1)); have E0 := Aside0.mk e0; have E1 := Aside0.mk e1; have l1 : w1.heap.size < w2.heap.size := Nat.lt_of_lt_of_le (by simp) hb2.size; have L1 := Aside0.mk l1; clear hb2)
        | (go_at_call 41; refine (HK3 _).out.mono ?_; rintro e w3 ⟨rfl, hd3⟩; have hb3 := drawn0_below hd3; have HB23 := Aside0.mk (below_step (below_alloc (Below.refl w2.heap.size w2) _) hb3); have G3 := Aside0.mk ((hb3.cell (p := ⟨w2.heap.size, 0, none⟩) (by simp)).trans (by simp : (w2.alloc (.cells #[.slice A2 x2.length n2, .slice A3 y2.length n3] _)).cell? ⟨w2.heap.size, 0, none⟩ = some (.slice A2 x2.length n2))); have G4 := Aside0.mk ((hb3.cell (p := ⟨w2.heap.size, 1, none⟩) (by simp)).trans (by simp : (w2.alloc (.cells #[.slice A2 x2.length n2, .slice A3 y2.length n3] _)).cell? ⟨w2.heap.size, 1, none⟩ = some (.slice A3 y2.length n3))); have L2 := Aside0.mk (Nat.lt_of_lt_of_le (by simp) hb3.size : w2.heap.size < w3.heap.size); clear hd3 hb3)
        | (go_at_call 36; refine ((HM _ _).out ?hc).mono ?_; (case hc =>
            intro W i hW hi
            have hBW := below_step HB23.out hW
            have hBW1 := below_step HB12.out hBW
            have hq := HQ.out
            have hl1 := L1.out
            have hl2 := L2.out
            have hs3 := hW.size
            have hL := HLL.out
            exact sumOf_q_calls w1.heap.size w2.heap.size x y x2 y2 hq.1.2 hq.2.2 (by omega) (by omega) A0 n0 A1 n1 A2 n2 A3 n3 i (by omega) W
              ((hBW.cell (p := ⟨w1.heap.size, 0, none⟩) hl1).trans E0.out)
              ((hBW.cell (p := ⟨w1.heap.size, 1, none⟩) hl1).trans E1.out)
              ((hW.cell (p := ⟨w2.heap.size, 0, none⟩) hl2).trans G3.out)
              ((hW.cell (p := ⟨w2.heap.size, 1, none⟩) hl2).trans G4.out)
              (Kd.C_below C0.out hBW1) N0.out (Kd.C_below C1.out hBW1) N1.out (Kd.C_below C2.out hBW) N2.out (Kd.C_below C3.out hBW) N3.out); rintro e w4 ⟨rfl, hb4⟩))
      go_ret2
      exact ⟨rfl, below_step (below_step HB.out (below_step HB12.out HB23.out)) hb4⟩
    · have e : smr (chrs s) (chrs t) = (⟨#[]⟩, false) := by
        unfold smr; rw [hb, hb2, if_neg (by simpa using hall)]
      rw [e]
      have hcase : b = false ∨ (b = true ∧ b2 = false) := by
        cases b with
        | false => exact .inl rfl
        | true =>
          cases b2 with
          | false => exact .inr ⟨rfl, rfl⟩
          | true => exact absurd ⟨rfl, rfl⟩ hall
      clear hb hb2 hk hk2 hxy hxy2 hall e
      rcases hcase with rfl | ⟨rfl, rfl⟩
      all_goals
        go_enter Try.func19, Try.ntmps19
        go_wp2_with (first
          | (go_at_call 29; with_reducible refine (HK _).out.mono ?_; rintro e w1 ⟨v0_, v1_, rfl, hR0, hR1, hb1⟩; obtain ⟨A0, n0, rfl, hn0, hC0⟩ := Kd.R_reads hR0; obtain ⟨A1, n1, rfl, hn1, hC1⟩ := Kd.R_reads hR1; clear hR0 hR1 hC0 hC1 hn0 hn1; have HB := Aside0.mk hb1; clear hb1)
          | (go_at_call 29; with_reducible refine (HK2 _).out.mono ?_; rintro e w2 ⟨v2_, v3_, rfl, hR0, hR1, hb2⟩; obtain ⟨A2, n2, rfl, hn2, hC2⟩ := Kd.R_reads hR0; obtain ⟨A3, n3, rfl, hn3, hC3⟩ := Kd.R_reads hR1; clear hR0 hR1 hC2 hC3 hn2 hn3; have HB2 := Aside0.mk (below_step HB.out (below_step (below_alloc (Below.refl w1.heap.size w1) _) hb2)); clear hb2))
        go_ret2
        refine ⟨rfl, ?_⟩
        repeat (first | exact HB2.out | apply below_alloc | (refine below_set ?_ HB2.out.size))
  exact key _ _ rfl rfl
end Go.Proofs.Yticdcfgjpopkoaa.P

namespace Go.Proofs.Yticdcfgjpopkoaa.P
open Go.RowKit Go.Proofs.YticdcfgjpopkoaaW.PrintWords Go.Proofs.YticdcfgjpopkoaaW.PrintLast Go.Proofs.YticdcfgjpopkoaaW.PrintMore
attribute [local go_sem] max2_int min2_int max_two min_two max_three min_three max_four min_four   -- for this text's walks alone
set_option linter.unusedVariables false
set_option linter.unusedSimpArgs false

/-! ### laws_FnStarEither: function 5 -/
noncomputable def laws_FnStarEither.j0:Nat → ByteArray → ByteArray → ByteArray → Bool → ByteArray → Bool → Bool → Option (Bool)
 | 0,_,_,_,_,_,_,_=>none
 | k + 1,x3,x4,x5,x6,x7,x8,x46=>if x46 = true then (if x5.toList = x7.toList then (some (x6 == x8)) else (some false)) else ((impl_StarOf.f x4).bind fun bt539=>((impl_MakeEither.f x3 x4).bind fun bt541=>((impl_StarOf.f bt541.1).bind fun bt543=>((impl_SumOf.f x5 bt539.1).bind fun bt545=>(if bt539.2 = true then (if bt541.2 = true then (if bt543.2 = true then (if bt545.2 = true then (some (bt543.1.toList == bt545.1.toList)) else (some true)) else (some true)) else (some true)) else (some true))))))
noncomputable def laws_FnStarEither.f (k:Nat) (l0:List Int):Option (Bool):=if (l0.length:Int) > 1048576 then (some true) else ((spec_DrawSumOf.f k l0).bind fun bt533=>((impl_StarOf.f bt533.1).bind fun bt535=>((spec_StarOf.f k bt533.1).bind fun bt537=>(if bt535.1.toList = bt537.1.toList then (if (bt535.2 != bt537.2) = true then (laws_FnStarEither.j0 k bt533.1 bt533.2 bt535.1 bt535.2 bt537.1 bt537.2 true) else (laws_FnStarEither.j0 k bt533.1 bt533.2 bt535.1 bt535.2 bt537.1 bt537.2 (!bt535.2))) else (laws_FnStarEither.j0 k bt533.1 bt533.2 bt535.1 bt535.2 bt537.1 bt537.2 true)))))
theorem laws_FnStarEither.mono_l:∀ k,(∀ y0 y1 y2 y3 y4 y5 y6,LeO (laws_FnStarEither.j0 k y0 y1 y2 y3 y4 y5 y6) (laws_FnStarEither.j0 (k + 1) y0 y1 y2 y3 y4 y5 y6))
 | 0=>fun _ _ _ _ _ _ _ r h=>by simp [laws_FnStarEither.j0] at h
 | k + 1=>by
  have ih0:=laws_FnStarEither.mono_l k
  ·intro y0 y1 y2 y3 y4 y5 y6
   unfold laws_FnStarEither.j0
   repeat' first
   | (with_reducible exact ih0 _ _ _ _ _ _ _)
   | (with_reducible exact spec_DrawSumOf.mono _ _)
   | (with_reducible exact spec_StarOf.mono _ _)
   | (with_reducible exact LeO.refl _)
   | (with_reducible exact LeO.none _)
   | (with_reducible refine LeO.ite ?_ ?_)
   | (with_reducible refine LeO.bind ?_ (fun _=>?_))
   | exact ih0 _ _ _ _ _ _ _
   | exact spec_DrawSumOf.mono _ _
   | exact spec_StarOf.mono _ _
   | exact LeO.none _
   | refine LeO.ite ?_ ?_
   | refine LeO.bind ?_ (fun _=>?_)
theorem laws_FnStarEither.mono:∀ a0 k,LeO (laws_FnStarEither.f k a0) (laws_FnStarEither.f (k + 1) a0):=by
 intro a0 k
 have ih0:=laws_FnStarEither.mono_l k
 unfold laws_FnStarEither.f
 repeat' first
   | (with_reducible exact ih0 _ _ _ _ _ _ _)
   | (with_reducible exact spec_DrawSumOf.mono _ _)
   | (with_reducible exact spec_StarOf.mono _ _)
   | (with_reducible exact LeO.refl _)
   | (with_reducible exact LeO.none _)
   | (with_reducible refine LeO.ite ?_ ?_)
   | (with_reducible refine LeO.bind ?_ (fun _=>?_))
   | exact ih0 _ _ _ _ _ _ _
   | exact spec_DrawSumOf.mono _ _
   | exact spec_StarOf.mono _ _
   | exact LeO.none _
   | refine LeO.ite ?_ ?_
   | refine LeO.bind ?_ (fun _=>?_)
set_option maxHeartbeats 8000000 in
set_option maxRecDepth 100000 in
theorem laws_FnStarEither.calls (k:Nat) (A0:Option Addr) (c0:Nat) (l0:List Int) (r:Bool) (w:World) (hr0:Kd.C (Kd.int .u8) w A0 l0.length l0) (hc0:l0.length≤c0) (h:laws_FnStarEither.f k l0 = some r) :
  Calls Try.prog 5 #[.slice A0 l0.length c0] w fun e w'=>e = .returned (.bool r)∧Below w.heap.size w w':=by
 have HR0:=Aside0.mk hr0
 have HC0:=Aside0.mk hc0
 clear hr0 hc0
 have HB:=Aside0.mk (Below.refl w.heap.size w)
 have H:(if (l0.length:Int) > 1048576 then (some true) else ((spec_DrawSumOf.f k l0).bind fun bt533=>((impl_StarOf.f bt533.1).bind fun bt535=>((spec_StarOf.f k bt533.1).bind fun bt537=>(if bt535.1.toList = bt537.1.toList then (if (bt535.2 != bt537.2) = true then (laws_FnStarEither.j0 k bt533.1 bt533.2 bt535.1 bt535.2 bt537.1 bt537.2 true) else (laws_FnStarEither.j0 k bt533.1 bt533.2 bt535.1 bt535.2 bt537.1 bt537.2 (!bt535.2))) else (laws_FnStarEither.j0 k bt533.1 bt533.2 bt535.1 bt535.2 bt537.1 bt537.2 true)))))) = some r:=h
 clear h
 by_cases c2:(l0.length:Int) > 1048576
 ·rw [if_pos c2] at H
  have c2b0:decide (1048576 < (l0.length:Int)) = true:=decide_eq_true c2
  have c2b1:decide (1048576 < l0.length) = true:=decide_eq_true (by omega)
  clear c2
  obtain rfl:=Option.some.inj H
  go_enter Try.func5,Try.ntmps5
  go_wp2
  go_ret
  exact ⟨by first|rfl|(simp [errW_none,errW_some] <;> rfl)|(simp [*,errW_none,errW_some] <;> rfl)|(simp [errW_none,errW_some];exact ⟨rfl,rfl⟩),by repeat (first|(with_reducible first|exact HB.out|apply below_alloc|apply pw_below_drewN|apply below_drew1)|exact HB.out)⟩
 ·rw [if_neg c2] at H
  have c2b0:decide (1048576 < (l0.length:Int)) = false:=decide_eq_false c2
  have c2b1:decide (1048576 < l0.length) = false:=decide_eq_false (by omega)
  clear c2
  replace H:=Option.bind_eq_some_iff.mp H
  obtain ⟨⟨t533,t534⟩,A30,H⟩:=H
  replace H:((impl_StarOf.f t533).bind fun bt535=>((spec_StarOf.f k t533).bind fun bt537=>(if bt535.1.toList = bt537.1.toList then (if (bt535.2 != bt537.2) = true then (laws_FnStarEither.j0 k t533 t534 bt535.1 bt535.2 bt537.1 bt537.2 true) else (laws_FnStarEither.j0 k t533 t534 bt535.1 bt535.2 bt537.1 bt537.2 (!bt535.2))) else (laws_FnStarEither.j0 k t533 t534 bt535.1 bt535.2 bt537.1 bt537.2 true)))) = some r:=H
  have A3:=Aside0.mk A30
  clear A30
  replace H:=Option.bind_eq_some_iff.mp H
  obtain ⟨⟨t535,t536⟩,A40,H⟩:=H
  replace H:((spec_StarOf.f k t533).bind fun bt537=>(if t535.toList = bt537.1.toList then (if (t536 != bt537.2) = true then (laws_FnStarEither.j0 k t533 t534 t535 t536 bt537.1 bt537.2 true) else (laws_FnStarEither.j0 k t533 t534 t535 t536 bt537.1 bt537.2 (!t536))) else (laws_FnStarEither.j0 k t533 t534 t535 t536 bt537.1 bt537.2 true))) = some r:=H
  have A4:=Aside0.mk A40
  clear A40
  replace H:=Option.bind_eq_some_iff.mp H
  obtain ⟨⟨t537,t538⟩,A50,H⟩:=H
  replace H:(if t535.toList = t537.toList then (if (t536 != t538) = true then (laws_FnStarEither.j0 k t533 t534 t535 t536 t537 t538 true) else (laws_FnStarEither.j0 k t533 t534 t535 t536 t537 t538 (!t536))) else (laws_FnStarEither.j0 k t533 t534 t535 t536 t537 t538 true)) = some r:=H
  have A5:=Aside0.mk A50
  clear A50
  have HC6:=Aside0.mk H
  clear H
  go_enter Try.func5,Try.ntmps5
  go_upto_region 6 with (first|((with_reducible refine gate_callee (f:=17) rfl ?_);refine goesL_ (some 22) rfl rfl Try.func17 (by kernel_rfl) rfl #[.slice A0 l0.length c0] rfl (by (try simp only [List.map_toArray,List.map_cons,List.map_nil]);first|done|rfl|(simp only [List.length_drop,List.length_take];rfl)) ?_;(with_reducible refine (spec_DrawSumOf.calls k _ _ l0 t533 t534 _ ?side1 ?side2 A3.out).mono ?_);(case side1=>repeat (first|exact HR0.out|(with_reducible refine Kd.C_alloc ?_ _)|(with_reducible refine Kd.C_drewN ?_ _)|(with_reducible refine Kd.C_drew ?_)));(case side2=>exact HC0.out);rintro e w7 ⟨rfl,hb⟩;refine ⟨_,rfl,?_⟩;have n0_:=Aside0.mk (below_step (by repeat (first|(with_reducible first|exact HB.out|apply below_alloc|apply pw_below_drewN|apply below_drew1)|exact HB.out)) hb);clear HB;have HB:=n0_;clear n0_;(try clear hb);(try clear hb2);(try clear hk);(try clear hi))|((with_reducible refine gate_callee (f:=7) rfl ?_);refine goesL_ (some 27) rfl rfl Try.func7 (by kernel_rfl) rfl #[.string t533] rfl (by (try simp only [List.map_toArray,List.map_cons,List.map_nil]);first|done|rfl|(simp only [List.length_drop,List.length_take];rfl)) ?_;(with_reducible refine (impl_StarOf.calls t533 t535 t536 _ A4.out).mono ?_);rintro e w8 ⟨rfl,hb⟩;refine ⟨_,rfl,?_⟩;have n0_:=Aside0.mk (below_step (by repeat (first|(with_reducible first|exact HB.out|apply below_alloc|apply pw_below_drewN|apply below_drew1)|exact HB.out)) hb);clear HB;have HB:=n0_;clear n0_;(try clear hb);(try clear hb2);(try clear hk);(try clear hi))|((with_reducible refine gate_callee (f:=8) rfl ?_);refine goesL_ (some 32) rfl rfl Try.func8 (by kernel_rfl) rfl #[.string t533] rfl (by (try simp only [List.map_toArray,List.map_cons,List.map_nil]);first|done|rfl|(simp only [List.length_drop,List.length_take];rfl)) ?_;(with_reducible refine (spec_StarOf.calls k t533 t537 t538 _ A5.out).mono ?_);rintro e w9 ⟨rfl,hb⟩;refine ⟨_,rfl,?_⟩;have n0_:=Aside0.mk (below_step (by repeat (first|(with_reducible first|exact HB.out|apply below_alloc|apply pw_below_drewN|apply below_drew1)|exact HB.out)) hb);clear HB;have HB:=n0_;clear n0_;(try clear hb);(try clear hb2);(try clear hk);(try clear hi)))
  (try simp only [Act.put,List.setIfInBounds_toArray,List.set_cons_zero,List.set_cons_succ])
  go_cut [46] (fun v46 wc=>∃ (kq:Nat) (x46_5:Bool),v46 = .bool x46_5∧Aside0 (laws_FnStarEither.j0 kq t533 t534 t535 t536 t537 t538 x46_5 = some r)∧Aside0 (kq≤k)∧Aside0 (Below w.heap.size w wc))
  case first =>
   have H:=HC6.out
   clear HC6
   by_cases c10:t535.toList = t537.toList
   ·rw [if_pos c10] at H
    have c10b0:(t535.toList == t537.toList) = true:=beq_iff_eq.mpr c10
    have c10b1:(t535.toList != t537.toList) = false:=bne_eq_false_iff_eq.mpr c10
    clear c10
    (first|rw [c10b0]|(simp only [i64_w,i32_w];rw [c10b0])|skip)
    by_cases c11:(t536 != t538) = true
    ·rw [if_pos c11] at H
     have c11b0:(t536 != t538) = true:=c11
     (try (have c11b1:decide (t536 = t538) = false:=by simpa using c11))
     (try (have c11b2:(t536 == t538) = false:=by simpa using c11))
     (try (have c11b3:¬ (t536 = t538):=by simpa using c11))
     clear c11
     have H':=Aside0.mk H
     clear H
     go_wp2
     go_meet
     case rel=>exact ⟨_,(true),(by first|rfl|(simp;done)|(simp [*];done)|(simp [Int.tmod_eq_emod_of_nonneg];done)),H',⟨by first|omega|exact Nat.le_refl _⟩,⟨by repeat (first|(with_reducible first|exact HB.out|apply below_alloc|apply pw_below_drewN|apply below_drew1)|exact HB.out)⟩⟩
    ·rw [if_neg c11] at H
     have c11b0:(t536 != t538) = false:=by simpa using c11
     (try (have c11b1:decide (t536 = t538) = true:=by simpa using c11))
     (try (have c11b2:(t536 == t538) = true:=by simpa using c11))
     clear c11
     have H':=Aside0.mk H
     clear H
     go_wp2
     go_meet
     case rel=>exact ⟨_,(!t536),(by first|rfl|(simp;done)|(simp [*];done)|(simp [Int.tmod_eq_emod_of_nonneg];done)),H',⟨by first|omega|exact Nat.le_refl _⟩,⟨by repeat (first|(with_reducible first|exact HB.out|apply below_alloc|apply pw_below_drewN|apply below_drew1)|exact HB.out)⟩⟩
   ·rw [if_neg c10] at H
    have c10b0:(t535.toList == t537.toList) = false:=beq_eq_false_iff_ne.mpr c10
    have c10b1:(t535.toList != t537.toList) = true:=bne_iff_ne.mpr c10
    (first|rw [c10b0]|(simp only [i64_w,i32_w];rw [c10b0])|skip)
    have H':=Aside0.mk H
    clear H
    go_wp2
    go_meet
    case rel=>exact ⟨_,(true),(by first|rfl|(simp;done)|(simp [*];done)|(simp [Int.tmod_eq_emod_of_nonneg];done)),H',⟨by first|omega|exact Nat.le_refl _⟩,⟨by repeat (first|(with_reducible first|exact HB.out|apply below_alloc|apply pw_below_drewN|apply below_drew1)|exact HB.out)⟩⟩
  case rest =>
   clear HC6
   try clear c1
   try clear c2
   try clear c2b0
   try clear c2b1
   try clear p2
   try clear c5
   try clear c7
   try clear c8
   try clear c10
   try clear c10b0
   try clear c10b1
   try clear c11
   try clear c11b0
   try clear c11b1
   try clear c11b2
   obtain ⟨kq,x46_5,rfl,HA,HJ5,HB⟩:=hcut
   cases kq with
   | zero=>exact absurd HA.out (by simp [laws_FnStarEither.j0])
   | succ kj5 =>
    have H:=HA.out
    clear HA
    simp only [laws_FnStarEither.j0] at H
    by_cases c12:x46_5 = true
    ·subst c12
     have H1:(if t535.toList = t537.toList then (some (t536 == t538)) else (some false)) = some r:=by rw [if_pos rfl] at H;exact H
     clear H
     have H:=H1
     clear H1
     by_cases c13:t535.toList = t537.toList
     ·rw [if_pos c13] at H
      have c13b0:(t535.toList == t537.toList) = true:=beq_iff_eq.mpr c13
      have c13b1:(t535.toList != t537.toList) = false:=bne_eq_false_iff_eq.mpr c13
      clear c13
      obtain rfl:=Option.some.inj H
      go_wp2
      go_ret
      exact ⟨by first|rfl|(simp [errW_none,errW_some] <;> rfl)|(simp [*,errW_none,errW_some] <;> rfl)|(simp [errW_none,errW_some];exact ⟨rfl,rfl⟩),by repeat (first|(with_reducible first|exact HB.out|apply below_alloc|apply pw_below_drewN|apply below_drew1)|exact HB.out)⟩
     ·rw [if_neg c13] at H
      have c13b0:(t535.toList == t537.toList) = false:=beq_eq_false_iff_ne.mpr c13
      have c13b1:(t535.toList != t537.toList) = true:=bne_iff_ne.mpr c13
      obtain rfl:=Option.some.inj H
      go_wp2
      go_ret
      exact ⟨by first|rfl|(simp [errW_none,errW_some] <;> rfl)|(simp [*,errW_none,errW_some] <;> rfl)|(simp [errW_none,errW_some];exact ⟨rfl,rfl⟩),by repeat (first|(with_reducible first|exact HB.out|apply below_alloc|apply pw_below_drewN|apply below_drew1)|exact HB.out)⟩
    ·replace c12:=Bool.eq_false_iff.mpr c12
     subst c12
     have H1:((impl_StarOf.f t534).bind fun bt539=>((impl_MakeEither.f t533 t534).bind fun bt541=>((impl_StarOf.f bt541.1).bind fun bt543=>((impl_SumOf.f t535 bt539.1).bind fun bt545=>(if bt539.2 = true then (if bt541.2 = true then (if bt543.2 = true then (if bt545.2 = true then (some (bt543.1.toList == bt545.1.toList)) else (some true)) else (some true)) else (some true)) else (some true)))))) = some r:=by rw [if_neg (show ¬ (false = true) by decide)] at H;exact H
     clear H
     have H:=H1
     clear H1
     replace H:=Option.bind_eq_some_iff.mp H
     obtain ⟨⟨t539,t540⟩,A140,H⟩:=H
     replace H:((impl_MakeEither.f t533 t534).bind fun bt541=>((impl_StarOf.f bt541.1).bind fun bt543=>((impl_SumOf.f t535 t539).bind fun bt545=>(if t540 = true then (if bt541.2 = true then (if bt543.2 = true then (if bt545.2 = true then (some (bt543.1.toList == bt545.1.toList)) else (some true)) else (some true)) else (some true)) else (some true))))) = some r:=H
     have A14:=Aside0.mk A140
     clear A140
     replace H:=Option.bind_eq_some_iff.mp H
     obtain ⟨⟨t541,t542⟩,A150,H⟩:=H
     replace H:((impl_StarOf.f t541).bind fun bt543=>((impl_SumOf.f t535 t539).bind fun bt545=>(if t540 = true then (if t542 = true then (if bt543.2 = true then (if bt545.2 = true then (some (bt543.1.toList == bt545.1.toList)) else (some true)) else (some true)) else (some true)) else (some true)))) = some r:=H
     have A15:=Aside0.mk A150
     clear A150
     replace H:=Option.bind_eq_some_iff.mp H
     obtain ⟨⟨t543,t544⟩,A160,H⟩:=H
     replace H:((impl_SumOf.f t535 t539).bind fun bt545=>(if t540 = true then (if t542 = true then (if t544 = true then (if bt545.2 = true then (some (t543.toList == bt545.1.toList)) else (some true)) else (some true)) else (some true)) else (some true))) = some r:=H
     have A16:=Aside0.mk A160
     clear A160
     replace H:=Option.bind_eq_some_iff.mp H
     obtain ⟨⟨t545,t546⟩,A170,H⟩:=H
     replace H:(if t540 = true then (if t542 = true then (if t544 = true then (if t546 = true then (some (t543.toList == t545.toList)) else (some true)) else (some true)) else (some true)) else (some true)) = some r:=H
     have A17:=Aside0.mk A170
     clear A170
     by_cases c18:t540 = true
     ·subst c18
      have H1:(if t542 = true then (if t544 = true then (if t546 = true then (some (t543.toList == t545.toList)) else (some true)) else (some true)) else (some true)) = some r:=by rw [if_pos rfl] at H;exact H
      clear H
      have H:=H1
      clear H1
      by_cases c19:t542 = true
      ·subst c19
       have H1:(if t544 = true then (if t546 = true then (some (t543.toList == t545.toList)) else (some true)) else (some true)) = some r:=by rw [if_pos rfl] at H;exact H
       clear H
       have H:=H1
       clear H1
       by_cases c20:t544 = true
       ·subst c20
        have H1:(if t546 = true then (some (t543.toList == t545.toList)) else (some true)) = some r:=by rw [if_pos rfl] at H;exact H
        clear H
        have H:=H1
        clear H1
        by_cases c21:t546 = true
        ·subst c21
         have H1:(some (t543.toList == t545.toList)) = some r:=by rw [if_pos rfl] at H;exact H
         clear H
         have H:=H1
         clear H1
         obtain rfl:=Option.some.inj H
         go_wp2_with (first|((with_reducible refine gate_callee (f:=7) rfl ?_);refine goesL_ (some 57) rfl rfl Try.func7 (by kernel_rfl) rfl #[.string t534] rfl (by (try simp only [List.map_toArray,List.map_cons,List.map_nil]);first|done|rfl|(simp only [List.length_drop,List.length_take];rfl)) ?_;(with_reducible refine (impl_StarOf.calls t534 t539 true _ A14.out).mono ?_);rintro e w22 ⟨rfl,hb⟩;refine ⟨_,rfl,?_⟩;have n0_:=Aside0.mk (below_step (by repeat (first|(with_reducible first|exact HB.out|apply below_alloc|apply pw_below_drewN|apply below_drew1)|exact HB.out)) hb);clear HB;have HB:=n0_;clear n0_;(try clear hb);(try clear hb2);(try clear hk);(try clear hi))|((with_reducible refine gate_callee (f:=18) rfl ?_);refine goesL_ (some 63) rfl rfl Try.func18 (by kernel_rfl) rfl #[.string t533,.string t534] rfl (by (try simp only [List.map_toArray,List.map_cons,List.map_nil]);first|done|rfl|(simp only [List.length_drop,List.length_take];rfl)) ?_;(with_reducible refine (impl_MakeEither.calls t533 t534 t541 true _ A15.out).mono ?_);rintro e w23 ⟨rfl,hb⟩;refine ⟨_,rfl,?_⟩;have n0_:=Aside0.mk (below_step (by repeat (first|(with_reducible first|exact HB.out|apply below_alloc|apply pw_below_drewN|apply below_drew1)|exact HB.out)) hb);clear HB;have HB:=n0_;clear n0_;(try clear hb);(try clear hb2);(try clear hk);(try clear hi))|((with_reducible refine gate_callee (f:=7) rfl ?_);refine goesL_ (some 68) rfl rfl Try.func7 (by kernel_rfl) rfl #[.string t541] rfl (by (try simp only [List.map_toArray,List.map_cons,List.map_nil]);first|done|rfl|(simp only [List.length_drop,List.length_take];rfl)) ?_;(with_reducible refine (impl_StarOf.calls t541 t543 true _ A16.out).mono ?_);rintro e w24 ⟨rfl,hb⟩;refine ⟨_,rfl,?_⟩;have n0_:=Aside0.mk (below_step (by repeat (first|(with_reducible first|exact HB.out|apply below_alloc|apply pw_below_drewN|apply below_drew1)|exact HB.out)) hb);clear HB;have HB:=n0_;clear n0_;(try clear hb);(try clear hb2);(try clear hk);(try clear hi))|((with_reducible refine gate_callee (f:=19) rfl ?_);refine goesL_ (some 74) rfl rfl Try.func19 (by kernel_rfl) rfl #[.string t535,.string t539] rfl (by (try simp only [List.map_toArray,List.map_cons,List.map_nil]);first|done|rfl|(simp only [List.length_drop,List.length_take];rfl)) ?_;(with_reducible refine (impl_SumOf.calls t535 t539 t545 true _ A17.out).mono ?_);rintro e w25 ⟨rfl,hb⟩;refine ⟨_,rfl,?_⟩;have n0_:=Aside0.mk (below_step (by repeat (first|(with_reducible first|exact HB.out|apply below_alloc|apply pw_below_drewN|apply below_drew1)|exact HB.out)) hb);clear HB;have HB:=n0_;clear n0_;(try clear hb);(try clear hb2);(try clear hk);(try clear hi)))
         go_ret
         exact ⟨by first|rfl|(simp [errW_none,errW_some] <;> rfl)|(simp [*,errW_none,errW_some] <;> rfl)|(simp [errW_none,errW_some];exact ⟨rfl,rfl⟩),by repeat (first|(with_reducible first|exact HB.out|apply below_alloc|apply pw_below_drewN|apply below_drew1)|exact HB.out)⟩
        ·replace c21:=Bool.eq_false_iff.mpr c21
         subst c21
         have H1:(some true) = some r:=by rw [if_neg (show ¬ (false = true) by decide)] at H;exact H
         clear H
         have H:=H1
         clear H1
         obtain rfl:=Option.some.inj H
         go_wp2_with (first|((with_reducible refine gate_callee (f:=7) rfl ?_);refine goesL_ (some 57) rfl rfl Try.func7 (by kernel_rfl) rfl #[.string t534] rfl (by (try simp only [List.map_toArray,List.map_cons,List.map_nil]);first|done|rfl|(simp only [List.length_drop,List.length_take];rfl)) ?_;(with_reducible refine (impl_StarOf.calls t534 t539 true _ A14.out).mono ?_);rintro e w26 ⟨rfl,hb⟩;refine ⟨_,rfl,?_⟩;have n0_:=Aside0.mk (below_step (by repeat (first|(with_reducible first|exact HB.out|apply below_alloc|apply pw_below_drewN|apply below_drew1)|exact HB.out)) hb);clear HB;have HB:=n0_;clear n0_;(try clear hb);(try clear hb2);(try clear hk);(try clear hi))|((with_reducible refine gate_callee (f:=18) rfl ?_);refine goesL_ (some 63) rfl rfl Try.func18 (by kernel_rfl) rfl #[.string t533,.string t534] rfl (by (try simp only [List.map_toArray,List.map_cons,List.map_nil]);first|done|rfl|(simp only [List.length_drop,List.length_take];rfl)) ?_;(with_reducible refine (impl_MakeEither.calls t533 t534 t541 true _ A15.out).mono ?_);rintro e w27 ⟨rfl,hb⟩;refine ⟨_,rfl,?_⟩;have n0_:=Aside0.mk (below_step (by repeat (first|(with_reducible first|exact HB.out|apply below_alloc|apply pw_below_drewN|apply below_drew1)|exact HB.out)) hb);clear HB;have HB:=n0_;clear n0_;(try clear hb);(try clear hb2);(try clear hk);(try clear hi))|((with_reducible refine gate_callee (f:=7) rfl ?_);refine goesL_ (some 68) rfl rfl Try.func7 (by kernel_rfl) rfl #[.string t541] rfl (by (try simp only [List.map_toArray,List.map_cons,List.map_nil]);first|done|rfl|(simp only [List.length_drop,List.length_take];rfl)) ?_;(with_reducible refine (impl_StarOf.calls t541 t543 true _ A16.out).mono ?_);rintro e w28 ⟨rfl,hb⟩;refine ⟨_,rfl,?_⟩;have n0_:=Aside0.mk (below_step (by repeat (first|(with_reducible first|exact HB.out|apply below_alloc|apply pw_below_drewN|apply below_drew1)|exact HB.out)) hb);clear HB;have HB:=n0_;clear n0_;(try clear hb);(try clear hb2);(try clear hk);(try clear hi))|((with_reducible refine gate_callee (f:=19) rfl ?_);refine goesL_ (some 74) rfl rfl Try.func19 (by kernel_rfl) rfl #[.string t535,.string t539] rfl (by (try simp only [List.map_toArray,List.map_cons,List.map_nil]);first|done|rfl|(simp only [List.length_drop,List.length_take];rfl)) ?_;(with_reducible refine (impl_SumOf.calls t535 t539 t545 false _ A17.out).mono ?_);rintro e w29 ⟨rfl,hb⟩;refine ⟨_,rfl,?_⟩;have n0_:=Aside0.mk (below_step (by repeat (first|(with_reducible first|exact HB.out|apply below_alloc|apply pw_below_drewN|apply below_drew1)|exact HB.out)) hb);clear HB;have HB:=n0_;clear n0_;(try clear hb);(try clear hb2);(try clear hk);(try clear hi)))
         go_ret
         exact ⟨by first|rfl|(simp [errW_none,errW_some] <;> rfl)|(simp [*,errW_none,errW_some] <;> rfl)|(simp [errW_none,errW_some];exact ⟨rfl,rfl⟩),by repeat (first|(with_reducible first|exact HB.out|apply below_alloc|apply pw_below_drewN|apply below_drew1)|exact HB.out)⟩
       ·replace c20:=Bool.eq_false_iff.mpr c20
        subst c20
        have H1:(some true) = some r:=by rw [if_neg (show ¬ (false = true) by decide)] at H;exact H
        clear H
        have H:=H1
        clear H1
        obtain rfl:=Option.some.inj H
        go_wp2_with (first|((with_reducible refine gate_callee (f:=7) rfl ?_);refine goesL_ (some 57) rfl rfl Try.func7 (by kernel_rfl) rfl #[.string t534] rfl (by (try simp only [List.map_toArray,List.map_cons,List.map_nil]);first|done|rfl|(simp only [List.length_drop,List.length_take];rfl)) ?_;(with_reducible refine (impl_StarOf.calls t534 t539 true _ A14.out).mono ?_);rintro e w30 ⟨rfl,hb⟩;refine ⟨_,rfl,?_⟩;have n0_:=Aside0.mk (below_step (by repeat (first|(with_reducible first|exact HB.out|apply below_alloc|apply pw_below_drewN|apply below_drew1)|exact HB.out)) hb);clear HB;have HB:=n0_;clear n0_;(try clear hb);(try clear hb2);(try clear hk);(try clear hi))|((with_reducible refine gate_callee (f:=18) rfl ?_);refine goesL_ (some 63) rfl rfl Try.func18 (by kernel_rfl) rfl #[.string t533,.string t534] rfl (by (try simp only [List.map_toArray,List.map_cons,List.map_nil]);first|done|rfl|(simp only [List.length_drop,List.length_take];rfl)) ?_;(with_reducible refine (impl_MakeEither.calls t533 t534 t541 true _ A15.out).mono ?_);rintro e w31 ⟨rfl,hb⟩;refine ⟨_,rfl,?_⟩;have n0_:=Aside0.mk (below_step (by repeat (first|(with_reducible first|exact HB.out|apply below_alloc|apply pw_below_drewN|apply below_drew1)|exact HB.out)) hb);clear HB;have HB:=n0_;clear n0_;(try clear hb);(try clear hb2);(try clear hk);(try clear hi))|((with_reducible refine gate_callee (f:=7) rfl ?_);refine goesL_ (some 68) rfl rfl Try.func7 (by kernel_rfl) rfl #[.string t541] rfl (by (try simp only [List.map_toArray,List.map_cons,List.map_nil]);first|done|rfl|(simp only [List.length_drop,List.length_take];rfl)) ?_;(with_reducible refine (impl_StarOf.calls t541 t543 false _ A16.out).mono ?_);rintro e w32 ⟨rfl,hb⟩;refine ⟨_,rfl,?_⟩;have n0_:=Aside0.mk (below_step (by repeat (first|(with_reducible first|exact HB.out|apply below_alloc|apply pw_below_drewN|apply below_drew1)|exact HB.out)) hb);clear HB;have HB:=n0_;clear n0_;(try clear hb);(try clear hb2);(try clear hk);(try clear hi))|((with_reducible refine gate_callee (f:=19) rfl ?_);refine goesL_ (some 74) rfl rfl Try.func19 (by kernel_rfl) rfl #[.string t535,.string t539] rfl (by (try simp only [List.map_toArray,List.map_cons,List.map_nil]);first|done|rfl|(simp only [List.length_drop,List.length_take];rfl)) ?_;(with_reducible refine (impl_SumOf.calls t535 t539 t545 t546 _ A17.out).mono ?_);rintro e w33 ⟨rfl,hb⟩;refine ⟨_,rfl,?_⟩;have n0_:=Aside0.mk (below_step (by repeat (first|(with_reducible first|exact HB.out|apply below_alloc|apply pw_below_drewN|apply below_drew1)|exact HB.out)) hb);clear HB;have HB:=n0_;clear n0_;(try clear hb);(try clear hb2);(try clear hk);(try clear hi)))
        go_ret
        exact ⟨by first|rfl|(simp [errW_none,errW_some] <;> rfl)|(simp [*,errW_none,errW_some] <;> rfl)|(simp [errW_none,errW_some];exact ⟨rfl,rfl⟩),by repeat (first|(with_reducible first|exact HB.out|apply below_alloc|apply pw_below_drewN|apply below_drew1)|exact HB.out)⟩
      ·replace c19:=Bool.eq_false_iff.mpr c19
       subst c19
       have H1:(some true) = some r:=by rw [if_neg (show ¬ (false = true) by decide)] at H;exact H
       clear H
       have H:=H1
       clear H1
       obtain rfl:=Option.some.inj H
       go_wp2_with (first|((with_reducible refine gate_callee (f:=7) rfl ?_);refine goesL_ (some 57) rfl rfl Try.func7 (by kernel_rfl) rfl #[.string t534] rfl (by (try simp only [List.map_toArray,List.map_cons,List.map_nil]);first|done|rfl|(simp only [List.length_drop,List.length_take];rfl)) ?_;(with_reducible refine (impl_StarOf.calls t534 t539 true _ A14.out).mono ?_);rintro e w34 ⟨rfl,hb⟩;refine ⟨_,rfl,?_⟩;have n0_:=Aside0.mk (below_step (by repeat (first|(with_reducible first|exact HB.out|apply below_alloc|apply pw_below_drewN|apply below_drew1)|exact HB.out)) hb);clear HB;have HB:=n0_;clear n0_;(try clear hb);(try clear hb2);(try clear hk);(try clear hi))|((with_reducible refine gate_callee (f:=18) rfl ?_);refine goesL_ (some 63) rfl rfl Try.func18 (by kernel_rfl) rfl #[.string t533,.string t534] rfl (by (try simp only [List.map_toArray,List.map_cons,List.map_nil]);first|done|rfl|(simp only [List.length_drop,List.length_take];rfl)) ?_;(with_reducible refine (impl_MakeEither.calls t533 t534 t541 false _ A15.out).mono ?_);rintro e w35 ⟨rfl,hb⟩;refine ⟨_,rfl,?_⟩;have n0_:=Aside0.mk (below_step (by repeat (first|(with_reducible first|exact HB.out|apply below_alloc|apply pw_below_drewN|apply below_drew1)|exact HB.out)) hb);clear HB;have HB:=n0_;clear n0_;(try clear hb);(try clear hb2);(try clear hk);(try clear hi))|((with_reducible refine gate_callee (f:=7) rfl ?_);refine goesL_ (some 68) rfl rfl Try.func7 (by kernel_rfl) rfl #[.string t541] rfl (by (try simp only [List.map_toArray,List.map_cons,List.map_nil]);first|done|rfl|(simp only [List.length_drop,List.length_take];rfl)) ?_;(with_reducible refine (impl_StarOf.calls t541 t543 t544 _ A16.out).mono ?_);rintro e w36 ⟨rfl,hb⟩;refine ⟨_,rfl,?_⟩;have n0_:=Aside0.mk (below_step (by repeat (first|(with_reducible first|exact HB.out|apply below_alloc|apply pw_below_drewN|apply below_drew1)|exact HB.out)) hb);clear HB;have HB:=n0_;clear n0_;(try clear hb);(try clear hb2);(try clear hk);(try clear hi))|((with_reducible refine gate_callee (f:=19) rfl ?_);refine goesL_ (some 74) rfl rfl Try.func19 (by kernel_rfl) rfl #[.string t535,.string t539] rfl (by (try simp only [List.map_toArray,List.map_cons,List.map_nil]);first|done|rfl|(simp only [List.length_drop,List.length_take];rfl)) ?_;(with_reducible refine (impl_SumOf.calls t535 t539 t545 t546 _ A17.out).mono ?_);rintro e w37 ⟨rfl,hb⟩;refine ⟨_,rfl,?_⟩;have n0_:=Aside0.mk (below_step (by repeat (first|(with_reducible first|exact HB.out|apply below_alloc|apply pw_below_drewN|apply below_drew1)|exact HB.out)) hb);clear HB;have HB:=n0_;clear n0_;(try clear hb);(try clear hb2);(try clear hk);(try clear hi)))
       go_ret
       exact ⟨by first|rfl|(simp [errW_none,errW_some] <;> rfl)|(simp [*,errW_none,errW_some] <;> rfl)|(simp [errW_none,errW_some];exact ⟨rfl,rfl⟩),by repeat (first|(with_reducible first|exact HB.out|apply below_alloc|apply pw_below_drewN|apply below_drew1)|exact HB.out)⟩
     ·replace c18:=Bool.eq_false_iff.mpr c18
      subst c18
      have H1:(some true) = some r:=by rw [if_neg (show ¬ (false = true) by decide)] at H;exact H
      clear H
      have H:=H1
      clear H1
      obtain rfl:=Option.some.inj H
      go_wp2_with (first|((with_reducible refine gate_callee (f:=7) rfl ?_);refine goesL_ (some 57) rfl rfl Try.func7 (by kernel_rfl) rfl #[.string t534] rfl (by (try simp only [List.map_toArray,List.map_cons,List.map_nil]);first|done|rfl|(simp only [List.length_drop,List.length_take];rfl)) ?_;(with_reducible refine (impl_StarOf.calls t534 t539 false _ A14.out).mono ?_);rintro e w38 ⟨rfl,hb⟩;refine ⟨_,rfl,?_⟩;have n0_:=Aside0.mk (below_step (by repeat (first|(with_reducible first|exact HB.out|apply below_alloc|apply pw_below_drewN|apply below_drew1)|exact HB.out)) hb);clear HB;have HB:=n0_;clear n0_;(try clear hb);(try clear hb2);(try clear hk);(try clear hi))|((with_reducible refine gate_callee (f:=18) rfl ?_);refine goesL_ (some 63) rfl rfl Try.func18 (by kernel_rfl) rfl #[.string t533,.string t534] rfl (by (try simp only [List.map_toArray,List.map_cons,List.map_nil]);first|done|rfl|(simp only [List.length_drop,List.length_take];rfl)) ?_;(with_reducible refine (impl_MakeEither.calls t533 t534 t541 t542 _ A15.out).mono ?_);rintro e w39 ⟨rfl,hb⟩;refine ⟨_,rfl,?_⟩;have n0_:=Aside0.mk (below_step (by repeat (first|(with_reducible first|exact HB.out|apply below_alloc|apply pw_below_drewN|apply below_drew1)|exact HB.out)) hb);clear HB;have HB:=n0_;clear n0_;(try clear hb);(try clear hb2);(try clear hk);(try clear hi))|((with_reducible refine gate_callee (f:=7) rfl ?_);refine goesL_ (some 68) rfl rfl Try.func7 (by kernel_rfl) rfl #[.string t541] rfl (by (try simp only [List.map_toArray,List.map_cons,List.map_nil]);first|done|rfl|(simp only [List.length_drop,List.length_take];rfl)) ?_;(with_reducible refine (impl_StarOf.calls t541 t543 t544 _ A16.out).mono ?_);rintro e w40 ⟨rfl,hb⟩;refine ⟨_,rfl,?_⟩;have n0_:=Aside0.mk (below_step (by repeat (first|(with_reducible first|exact HB.out|apply below_alloc|apply pw_below_drewN|apply below_drew1)|exact HB.out)) hb);clear HB;have HB:=n0_;clear n0_;(try clear hb);(try clear hb2);(try clear hk);(try clear hi))|((with_reducible refine gate_callee (f:=19) rfl ?_);refine goesL_ (some 74) rfl rfl Try.func19 (by kernel_rfl) rfl #[.string t535,.string t539] rfl (by (try simp only [List.map_toArray,List.map_cons,List.map_nil]);first|done|rfl|(simp only [List.length_drop,List.length_take];rfl)) ?_;(with_reducible refine (impl_SumOf.calls t535 t539 t545 t546 _ A17.out).mono ?_);rintro e w41 ⟨rfl,hb⟩;refine ⟨_,rfl,?_⟩;have n0_:=Aside0.mk (below_step (by repeat (first|(with_reducible first|exact HB.out|apply below_alloc|apply pw_below_drewN|apply below_drew1)|exact HB.out)) hb);clear HB;have HB:=n0_;clear n0_;(try clear hb);(try clear hb2);(try clear hk);(try clear hi)))
      go_ret
      exact ⟨by first|rfl|(simp [errW_none,errW_some] <;> rfl)|(simp [*,errW_none,errW_some] <;> rfl)|(simp [errW_none,errW_some];exact ⟨rfl,rfl⟩),by repeat (first|(with_reducible first|exact HB.out|apply below_alloc|apply pw_below_drewN|apply below_drew1)|exact HB.out)⟩

/-- THE ONE PURE STATEMENT of laws_FnStarEither: yours. -/
noncomputable def laws_FnStarEither.Pure:Prop:=∀ (l0:List Int),l0.length≤maxLen → l0.length * 1≤140737488351232 → (∀ x ∈ l0,(Lit.int .u8 x).wf = true) → ∃ k,laws_FnStarEither.f k l0 = some true
theorem laws_FnStarEither.walk (P:laws_FnStarEither.Pure) (a0:Option Addr) (len0 cap0:Nat) (z0:List Int) (w:World) (w0:(a0 = none∧len0 = 0∧cap0 = 0∧z0 = []) ∨ ∃ x,a0 = some x∧len0≤cap0∧cap0≤maxLen∧z0.length = cap0∧(∀ i,i < z0.length → w.cell? (x.add i) = some (.int .u8 (z0.getD i 0)))∧∀ n ∈ z0,(Lit.int .u8 n).wf = true) (y0:len0 * 1≤140737488351232) :
  Calls Try.prog 5 #[.slice a0 len0 cap0] w fun e w'=>e = .returned (.bool true)∧Below w.heap.size w w':=by
 obtain ⟨l0,rfl,hr0,hm0,hw0,hc0⟩:=ReadsInt.ofRowC w0
 obtain ⟨k,h⟩:=P l0 hm0 y0 hw0
 refine (laws_FnStarEither.calls k _ _ l0 true w (Kd.C_of_reads (d:=(0:Int)) (h1:=fun _=>rfl) hr0) hc0 h).mono ?_
 rintro e w' ⟨rfl,hd⟩
 exact ⟨rfl,hd⟩

end Go.Proofs.Yticdcfgjpopkoaa.P

-- For every code the law FnStarEither holds.
namespace Go.Proofs.Yticdcfgjpopkoaa.P
open Go.RowKit Go.Proofs.YticdcfgjpopkoaaW.PrintWords Go.Proofs.YticdcfgjpopkoaaW.PrintLast Go.Proofs.YticdcfgjpopkoaaW.PrintMore
set_option linter.unusedVariables false
set_option linter.unusedSimpArgs false

theorem drawStarEither_f (l : List Int) (h : ∀ x ∈ l, (Lit.int .u8 x).wf = true) : ∃ (s t : ByteArray), Few s ∧ Few t ∧ Ev (fun k => spec_DrawSumOf.f k l) (s, t) := by
  obtain ⟨s, q, hf, hq, K0, h0⟩ := set91_f (code_of h) 0 (by omega)
  dsimp only at h0
  have g0 : ∀ k, K0 ≤ k → spec_l91Set.f k (l.take 2000) 0 = some (s, (q : Int)) := h0
  obtain ⟨t, q2, hf2, hq2, K1, h1⟩ := set91_f (code_of h) q (by omega)
  dsimp only at h1
  have g1 : ∀ k, K1 ≤ k → spec_l91Set.f k (l.take 2000) (q : Int) = some (t, (q2 : Int)) := h1
  refine ⟨s, t, hf, hf2, K0 + K1, fun k hk => ?_⟩
  try dsimp only
  unfold spec_DrawSumOf.f
  rw [open_f, Option.bind_some, g0 k (by omega), Option.bind_some, g1 k (by omega), Option.bind_some]
theorem starEither_eq {s t : List UInt8} (h1 : (str s true).2 = true) (h2 : (str t true).2 = true) (h3 : (two (fun x y => x || y) s t).2 = true) (h4 : (str (chrs (two (fun x y => x || y) s t).1) true).2 = true) (h5 : (smr (chrs (str s true).1) (chrs (str t true).1)).2 = true) :
    (str (chrs (two (fun x y => x || y) s t).1) true).1 = (smr (chrs (str s true).1) (chrs (str t true).1)).1 := by
  obtain ⟨_, _, a1, a2, a3, a4⟩ := str_ok h1
  obtain ⟨_, _, b1, b2, b3, b4⟩ := str_ok h2
  obtain ⟨_, _, c1, c2, c3, c4⟩ := two_ok h3
  obtain ⟨_, _, d1, d2, d3, d4⟩ := str_ok h4
  obtain ⟨_, _, e1, e2, e3, e4⟩ := smr_ok h5
  rw [d3, e3, c3, a3, b3, txt_setf c1 c2 c4, txt_setf a1 a2 a4, txt_setf b1 b2 b4]
  congr 3
  exact stq_or (setf s) (setf t)
theorem starTwo_size (op : Bool → Bool → Bool) (s t : List UInt8) : (two op s t).1.size ≤ 122 := by
  unfold two
  split
  · exact txt_size _
  · show (0 : Nat) ≤ 122; omega
theorem lawStarEither_ev (l : List Int) (h : ∀ x ∈ l, (Lit.int .u8 x).wf = true) : Ev (fun k => laws_FnStarEither.f k l) true := by
  by_cases hl : (l.length : Int) > 1048576
  · exact ⟨0, fun k _ => by dsimp only; unfold laws_FnStarEither.f; rw [if_pos hl]⟩
  · obtain ⟨s, t, hf, hf2, K1, h1⟩ := drawStarEither_f l h
    dsimp only at h1
    have hz := hf.size
    have hz2 := hf2.size
    have hs : s.size ≤ 70368744177664 := by omega
    have ht : t.size ≤ 70368744177664 := by omega
    obtain ⟨K2, h2⟩ := sstarOf_f s hs
    dsimp only at h2
    have h3 := starOf_f s hs
    have main : ∀ k, laws_FnStarEither.j0 (k + 1) s t (str (chrs s) true).1 (str (chrs s) true).2 (str (chrs s) true).1 (str (chrs s) true).2 (!(str (chrs s) true).2) = some true := by
      intro k
      simp only [laws_FnStarEither.j0]
      cases g1 : (str (chrs s) true).2 with
      | false => rfl
      | true =>
        have z1 := str_sz (chrs s) true
        have z2 := str_sz (chrs t) true
        have z3 := starTwo_size (fun x y => x || y) (chrs s) (chrs t)
        rw [if_neg (by decide), starOf_f t ht, Option.bind_some, makeEither_f s t hs ht, Option.bind_some, starOf_f _ (by omega), Option.bind_some, sumOf_f _ _ (by omega) (by omega), Option.bind_some]
        cases g2 : (str (chrs t) true).2 with
        | false => rfl
        | true =>
          cases g3 : (two (fun x y => x || y) (chrs s) (chrs t)).2 with
          | false => rfl
          | true =>
            cases g4 : (str (chrs (two (fun x y => x || y) (chrs s) (chrs t)).1) true).2 with
            | false => rfl
            | true =>
              cases g5 : (smr (chrs (str (chrs s) true).1) (chrs (str (chrs t) true).1)).2 with
              | false => rfl
              | true => rw [if_pos (by trivial), if_pos (by trivial), if_pos (by trivial), if_pos (by trivial), starEither_eq g1 g2 g3 g4 g5, BEq.rfl]
    refine ⟨K1 + K2 + 1, fun k hk => ?_⟩
    obtain ⟨k, rfl, hk2⟩ := down1 hk
    try dsimp only
    unfold laws_FnStarEither.f
    rw [if_neg hl, h1 (k + 1) (by omega), Option.bind_some]
    try dsimp only
    rw [h3, Option.bind_some, h2 (k + 1) (by omega), Option.bind_some, if_pos (by trivial), if_neg (bne_no _)]
    exact main k
theorem lawStarEither_pure : laws_FnStarEither.Pure := fun l _ _ h => (lawStarEither_ev l h).rounds
end Go.Proofs.Yticdcfgjpopkoaa.P

-- For every code the law FnStarEither holds.
namespace Go.Proofs.Yticdcfgjpopkoaa.Pure
theorem FnStarEither : Go.Proofs.Yticdcfgjpopkoaa.P.laws_FnStarEither.Pure := Go.Proofs.Yticdcfgjpopkoaa.P.lawStarEither_pure
end Go.Proofs.Yticdcfgjpopkoaa.Pure
