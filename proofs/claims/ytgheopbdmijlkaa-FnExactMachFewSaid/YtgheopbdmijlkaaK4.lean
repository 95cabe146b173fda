/- What these laws reach, joined by a program of this session: contracts (written by that program over the kit's print, or by hand) and plain lemmas. -/
import Derived.Lib.SliceRun
import Derived.Deep.QuietTactic
import Derived.BigQuiet
import Derived.Test.YtgheopbdmijlkaaK1
import Derived.Test.YtgheopbdmijlkaaK2
import Derived.Test.YtgheopbdmijlkaaK3
open Go.Proofs.YtgheopbdmijlkaaW.PrintWords renaming below_alloc → yA, pw_below_drewN → yB, below_drew1 → yC, below_set → yD, blk_drewN → yE, blk_drew → yF, blk_alloc → yG, below_step → yP, below_size → yQ
open Go.Proofs.YtgheopbdmijlkaaW.PrintWords.Kd renaming R_alloc → yH, R_drewN → yI, R_drew → yJ
open List renaming setIfInBounds_toArray → yK, set_cons_zero → yL, set_cons_succ → yM
-- Machines: the states after so many steps come again from some place on.
namespace Go.Proofs.Ytgheopbdmijlkaa.P
open Go.RowKit Go.Proofs.YtgheopbdmijlkaaW.PrintWords Go.Proofs.YtgheopbdmijlkaaW.PrintLast Go.Proofs.YtgheopbdmijlkaaW.PrintMore
set_option linter.unusedVariables false
set_option linter.unusedSimpArgs false

theorem nor_nat {a b : Nat} (ha : a < 2 ^ 62) (hb : b < 2 ^ 62) : Go.bits .or .i64 (a : Int) (b : Int) = ((a ||| b : Nat) : Int) := by
  have ha' : a % 2 ^ IntKind.i64.bits = a := Nat.mod_eq_of_lt (by show a < 2 ^ 64; omega)
  have hb' : b % 2 ^ IntKind.i64.bits = b := Nat.mod_eq_of_lt (by show b < 2 ^ 64; omega)
  have hx := Nat.or_lt_two_pow ha hb
  simp only [Go.bits, BitVec.ofInt_natCast, BitVec.toNat_or, BitVec.toNat_ofNat, ha', hb']
  rw [IntKind.wrap_i64]
  omega
theorem shl_pow {i : Nat} (h : i ≤ 61) : shl .i64 1 (i : Int) = ((2 ^ i : Nat) : Int) := by
  have hb : IntKind.i64.bits = 64 := rfl
  have h2 : 2 ^ i ≤ 2 ^ 61 := Nat.pow_le_pow_right (by omega) h
  unfold shl
  rw [Int.toNat_natCast, hb, Nat.min_eq_left (by omega), Int.one_mul, IntKind.wrap_i64]
  have e : (2 : Int) ^ i = ((2 ^ i : Nat) : Int) := by rw [Int.natCast_pow]; rfl
  rw [e]
  generalize 2 ^ i = p at *
  omega
/-- The states met from the first i states. -/
def nxs (l : List Int) (x : Int) : Nat → Int
  | 0 => 0
  | i + 1 => if Go.bits .and .i64 (shr .i64 x (i : Int)) 1 = 1 then Go.bits .or .i64 (nxs l x i) (rd l (i : Int)) else nxs l x i
/-- All states to which one may step. -/
def nxt (l : List Int) (x : Int) : Int := nxs l x l.length
/-- A list of sets of so many states. -/
def Stt (l : List Int) (n : Nat) : Prop := ∀ i : Nat, i < l.length → ∃ v : Nat, rd l (i : Int) = (v : Int) ∧ v < 2 ^ n
theorem nxs_in {l : List Int} {n : Nat} (hn : n ≤ 60) (h : Stt l n) (x : Int) : ∀ i : Nat, i ≤ l.length → ∃ v : Nat, nxs l x i = (v : Int) ∧ v < 2 ^ n
  | 0, _ => ⟨0, rfl, Nat.two_pow_pos n⟩
  | i + 1, hi => by
    obtain ⟨v, h1, h2⟩ := nxs_in hn h x i (by omega)
    obtain ⟨u, h3, h4⟩ := h i (by omega)
    have hp : 2 ^ n ≤ 2 ^ 60 := Nat.pow_le_pow_right (by omega) hn
    rw [nxs]
    split
    · rw [h1, h3, nor_nat (by omega) (by omega)]
      exact ⟨_, rfl, Nat.or_lt_two_pow h2 h4⟩
    · exact ⟨v, h1, h2⟩
theorem nxt_in {l : List Int} {n : Nat} (hn : n ≤ 60) (h : Stt l n) (x : Int) : ∃ v : Nat, nxt l x = (v : Int) ∧ v < 2 ^ n := nxs_in hn h x _ (Nat.le_refl _)
/-- The states after i steps. -/
def orb (l : List Int) (st : Int) : Nat → Int
  | 0 => st
  | i + 1 => nxt l (orb l st i)
theorem orb_in {l : List Int} {st : Int} {n : Nat} (hn : n ≤ 60) (h : Stt l n) (hs : ∃ v : Nat, st = (v : Int) ∧ v < 2 ^ n) : ∀ i, ∃ v : Nat, orb l st i = (v : Int) ∧ v < 2 ^ n
  | 0 => hs
  | i + 1 => nxt_in hn h _
/-- Whether a machine takes a number. -/
def mq (l : List Int) (st en : Int) : Nat → Bool := fun n => Go.bits .and .i64 (orb l st n) en != 0
/-- The first time T at which a set of states comes again, and the time F at which it came. -/
structure Shape (l : List Int) (st : Int) (T F : Nat) : Prop where
  lt : F < T
  same : orb l st T = orb l st F
  new : ∀ i j, i < j → j < T → orb l st i ≠ orb l st j
theorem least_of {p : Nat → Prop} : ∀ n, p n → ∃ m, m ≤ n ∧ p m ∧ ∀ k, k < m → ¬ p k := by
  intro n
  induction n using Nat.strongRecOn with
  | ind n ih =>
    intro h
    rcases Classical.em (∃ k, k < n ∧ p k) with ⟨k, h1, h2⟩ | h1
    · obtain ⟨m, a, b, c⟩ := ih k h1 h2
      exact ⟨m, by omega, b, c⟩
    · exact ⟨n, Nat.le_refl _, h, fun k hk hp => h1 ⟨k, hk, hp⟩⟩
theorem shape_of {l : List Int} {st : Int} {n : Nat} (hn : n ≤ 60) (h : Stt l n) (hs : ∃ v : Nat, st = (v : Int) ∧ v < 2 ^ n) : ∃ T F, Shape l st T F ∧ T ≤ 2 ^ n := by
  have hin := orb_in hn h hs
  have hnat : ∀ i, orb l st i = ((orb l st i).toNat : Int) ∧ (orb l st i).toNat < 2 ^ n := fun i => by
    obtain ⟨v, h1, h2⟩ := hin i
    rw [h1, Int.toNat_natCast]; exact ⟨rfl, h2⟩
  obtain ⟨i, j, h1, h2, h3⟩ := pigeon (2 ^ n) (fun i => (orb l st i).toNat) (fun i _ => (hnat i).2)
  have h3 : (orb l st i).toNat = (orb l st j).toNat := h3
  have h4 : orb l st j = orb l st i := by rw [(hnat j).1, (hnat i).1, h3]
  obtain ⟨T, a, ⟨F, b, c⟩, d⟩ := least_of (p := fun T => ∃ F, F < T ∧ orb l st T = orb l st F) j ⟨i, h1, h4⟩
  exact ⟨T, F, ⟨b, c, fun i j hij hj e => d j hj ⟨i, hij, e.symm⟩⟩, by omega⟩
theorem Shape.orb_per {l : List Int} {st : Int} {T F : Nat} (h : Shape l st T F) : ∀ d, orb l st (F + d + (T - F)) = orb l st (F + d)
  | 0 => by have := h.lt; rw [show F + 0 + (T - F) = T by omega]; exact h.same
  | d + 1 => by
    rw [show F + (d + 1) + (T - F) = F + d + (T - F) + 1 by omega, show F + (d + 1) = F + d + 1 by omega]
    show nxt l _ = nxt l _
    rw [h.orb_per d]
theorem Shape.per {l : List Int} {st : Int} {T F : Nat} (h : Shape l st T F) (en : Int) : Per (mq l st en) F (T - F) := fun n hn => by
  unfold mq
  have := h.orb_per (n - F)
  rw [show F + (n - F) = n by omega] at this
  rw [this]
/-- The states of the first i times. -/
def orbs (l : List Int) (st : Int) (i : Nat) : List Int := (List.range i).map (orb l st)
theorem orbs_length (l : List Int) (st : Int) (i : Nat) : (orbs l st i).length = i := by simp [orbs]
theorem orbs_succ (l : List Int) (st : Int) (i : Nat) : orbs l st (i + 1) = orbs l st i ++ [orb l st i] := by simp [orbs, List.range_succ]
theorem orbs_rd (l : List Int) (st : Int) {i j : Nat} (h : j < i) : rd (orbs l st i) (j : Int) = orb l st j := by
  simp [rd, orbs, List.getD_eq_getElem?_getD, h]
end Go.Proofs.Ytgheopbdmijlkaa.P

-- impl.in: a number in a range.
namespace Go.Proofs.Ytgheopbdmijlkaa.P
open Go.RowKit Go.Proofs.YtgheopbdmijlkaaW.PrintWords Go.Proofs.YtgheopbdmijlkaaW.PrintLast Go.Proofs.YtgheopbdmijlkaaW.PrintMore
set_option linter.unusedVariables false
set_option linter.unusedSimpArgs false

theorem in_f (a b c : Int) : impl_in.f a b c = some (decide (b ≤ a ∧ a ≤ c)) := by
  unfold impl_in.f
  by_cases h : a ≥ b
  · rw [if_pos h]; congr 1; apply decide_eq_decide.2; omega
  · rw [if_neg h]; congr 1; symm; rw [decide_eq_false_iff_not]; omega

end Go.Proofs.Ytgheopbdmijlkaa.P

-- impl.MachIn: whether a machine is one.
namespace Go.Proofs.Ytgheopbdmijlkaa.P
open Go.RowKit Go.Proofs.YtgheopbdmijlkaaW.PrintWords Go.Proofs.YtgheopbdmijlkaaW.PrintLast Go.Proofs.YtgheopbdmijlkaaW.PrintMore
attribute [local go_sem] max2_int min2_int max_two min_two
set_option linter.unusedVariables false
set_option linter.unusedSimpArgs false

/-- All states of so many. -/
def mall (n : Nat) : Int := if n = 0 then 0 else if n = 1 then 1 else if n = 2 then 3 else if n = 3 then 7 else if n = 4 then 15 else 31
/-- Whether a machine is one. -/
noncomputable def mok (l : List Int) (st en : Int) : Bool := decide (1 ≤ l.length ∧ l.length ≤ 5) && (!anyI l (fun x => !decide (0 ≤ x ∧ x ≤ mall l.length)) && (decide (0 ≤ st ∧ st ≤ mall l.length) && decide (0 ≤ en ∧ en ≤ mall l.length)))
noncomputable def impl_MachIn.f (l : List Int) (st en : Int) : Option Bool := if l.length ≤ 1000000000000 then some (mok l st en) else none
theorem machIn_f {l : List Int} (h : l.length ≤ 1000000000000) (st en : Int) : impl_MachIn.f l st en = some (mok l st en) := by unfold impl_MachIn.f; rw [if_pos h]

set_option maxHeartbeats 8000000 in
theorem machIn_q_calls (x M : Int) (b : Nat) (W : World) (hb : W.cell? ⟨b, 0, none⟩ = some (.int .i64 M)) :
    Calls Try.prog 74 #[.int .i64 x, .pointer (some ⟨b, 0, none⟩)] W fun e w' => e = .returned (.bool (!decide (0 ≤ x ∧ x ≤ M))) ∧ Below W.heap.size W w' := by
  have HI := fun w => Aside0.mk (impl_in.calls x 0 M _ w (in_f x 0 M))
  generalize decide (0 ≤ x ∧ x ≤ M) = v at *
  go_enter Try.func74, Try.ntmps74
  go_wp2_with (go_at_call 75; refine (HI _).out.mono ?_; rintro e w1 ⟨rfl, hd⟩; have hb1 := drawn0_below hd)
  go_ret
  exact ⟨rfl, hb1⟩

theorem cell_three (w : World) (x y z : Value) (T : TypeId) : (w.alloc (.cells #[x, y, z] T)).cell? ⟨w.heap.size, 0, none⟩ = some x ∧ (w.alloc (.cells #[x, y, z] T)).cell? ⟨w.heap.size, 1, none⟩ = some y ∧ (w.alloc (.cells #[x, y, z] T)).cell? ⟨w.heap.size, 2, none⟩ = some z := ⟨by simp, by simp, by simp⟩
theorem two_objs (w : World) (x y z v : Value) (T T' : TypeId) {u u' : Int} (hu : u = u') (hv : v = .int .i64 u) : ((w.alloc (.cells #[x, y, z] T)).alloc (.cells #[v] T')).cell? ⟨w.heap.size, 0, none⟩ = some x ∧ ((w.alloc (.cells #[x, y, z] T)).alloc (.cells #[v] T')).cell? ⟨w.heap.size, 1, none⟩ = some y ∧ ((w.alloc (.cells #[x, y, z] T)).alloc (.cells #[v] T')).cell? ⟨w.heap.size, 2, none⟩ = some z ∧ ((w.alloc (.cells #[x, y, z] T)).alloc (.cells #[v] T')).cell? ⟨w.heap.size + 1, 0, none⟩ = some (.int .i64 u') := by
  subst hu hv
  refine ⟨Lib.cell?_alloc_some _ (by simp), Lib.cell?_alloc_some _ (by simp), Lib.cell?_alloc_some _ (by simp), by simp⟩
set_option maxHeartbeats 16000000 in
set_option maxRecDepth 100000 in
theorem impl_MachIn.calls (A : Option Addr) (c : Nat) (l : List Int) (st en : Int) (r : Bool) (w : World) (hC : Kd.C (Kd.int .i64) w A l.length l) (hc : l.length ≤ c) (h : impl_MachIn.f l st en = some r) :
    Calls Try.prog 59 #[.agg #[.slice A l.length c, .int .i64 st, .int .i64 en]] w fun e w' => e = .returned (.bool r) ∧ Below w.heap.size w w' := by
  unfold impl_MachIn.f at h
  split at h
  rotate_left
  · cases h
  rename_i hbig
  simp only [Option.some.injEq] at h
  subst h
  have hu := Try.underlying31
  by_cases hn : 1 ≤ l.length ∧ l.length ≤ 5
  · have hin : impl_in.f (l.length : Int) 1 5 = some true := by rw [in_f, decide_eq_true (by omega)]
    have HI := fun w => Aside0.mk (impl_in.calls (l.length : Int) 1 5 _ w hin)
    have eg : ∀ args w, (callFunc 74 args).run Try.prog w = .ok (.enter 74 args) w := enters_of Try.func74 (by kernel_rfl) rfl
    have e : mok l st en = (!anyI l (fun x => !decide (0 ≤ x ∧ x ≤ mall l.length)) && (decide (0 ≤ st ∧ st ≤ mall l.length) && decide (0 ≤ en ∧ en ≤ mall l.length))) := by unfold mok; rw [decide_eq_true hn, Bool.true_and]
    rw [e]
    have HCF := fun (W : World) (hW : Below w.heap.size w W) (b : Nat) (hb : W.cell? ⟨b, 0, none⟩ = some (.int .i64 (mall l.length))) => Aside0.mk (containsFunc_calls l hbig A c 74 #[.pointer (some ⟨b, 0, none⟩)] (fun x => !decide (0 ≤ x ∧ x ≤ mall l.length)) W (Kd.C_below hC hW) hc eg (fun W' i hW' hi => machIn_q_calls _ _ b W' ((hW'.cell (p := ⟨b, 0, none⟩) (World.block_lt_of_cell? W _ hb)).trans hb)))
    have hl5 : ¬ ((5 : Int) < (l.length : Int)) := by omega
    have hval : wrap64 (wrap64 (2 ^ l.length) - 1) = mall l.length := by
      rcases (show l.length = 1 ∨ l.length = 2 ∨ l.length = 3 ∨ l.length = 4 ∨ l.length = 5 by omega) with h | h | h | h | h <;> rw [h] <;> decide +kernel
    have H2 := fun (W : World) (b : Nat) (hb : W.cell? ⟨b, 0, none⟩ = some (.int .i64 (mall l.length))) => Aside0.mk (machIn_q_calls st _ b W hb)
    have H3 := fun (W : World) (b : Nat) (hb : W.cell? ⟨b, 0, none⟩ = some (.int .i64 (mall l.length))) => Aside0.mk (machIn_q_calls en _ b W hb)
    have HM3 := Aside0.mk (fun T => two_objs w (.slice A l.length c) (.int .i64 st) (.int .i64 en) (.int .i64 (wrap64 (wrap64 (2 ^ l.length) - 1))) T 3 hval rfl)
    generalize anyI l (fun x => !decide (0 ≤ x ∧ x ≤ mall l.length)) = b1 at *
    generalize decide (0 ≤ st ∧ st ≤ mall l.length) = b2 at *
    generalize decide (0 ≤ en ∧ en ≤ mall l.length) = b3 at *
    clear e hn hin hC hbig eg hval
    cases b1 with
    | true =>
      go_enter Try.func59, Try.ntmps59
      go_wp2_with (first
        | (go_at_call 75; with_reducible refine (HI _).out.mono ?_; rintro e w1 ⟨rfl, hd⟩; have hb1 := drawn0_below hd; have HB1 := Aside0.mk (below_step (below_alloc (below_alloc (Below.refl w.heap.size w) _) _) hb1); have c0 := (hb1.cell (p := ⟨w.heap.size, 0, none⟩) (by simp; omega)).trans (HM3.out _).1; have c1 := (hb1.cell (p := ⟨w.heap.size, 1, none⟩) (by simp; omega)).trans (HM3.out _).2.1; have c2 := (hb1.cell (p := ⟨w.heap.size, 2, none⟩) (by simp; omega)).trans (HM3.out _).2.2.1; have d0 := (hb1.cell (p := ⟨w.heap.size + 1, 0, none⟩) (by simp)).trans (HM3.out _).2.2.2; have l1 : w.heap.size + 1 < w1.heap.size := Nat.lt_of_lt_of_le (by simp) hb1.size; clear hd hb1)
        | (go_at_call 76; refine (HCF _ HB1.out (w.heap.size + 1) d0).out.mono ?_; rintro e w2 ⟨rfl, hb2⟩; have HB2 := Aside0.mk (below_step HB1.out hb2); have e0 := (hb2.cell (p := ⟨w.heap.size, 0, none⟩) (by show w.heap.size < w1.heap.size; omega)).trans c0; have e1 := (hb2.cell (p := ⟨w.heap.size, 1, none⟩) (by show w.heap.size < w1.heap.size; omega)).trans c1; have e2 := (hb2.cell (p := ⟨w.heap.size, 2, none⟩) (by show w.heap.size < w1.heap.size; omega)).trans c2; have f0 := (hb2.cell (p := ⟨w.heap.size + 1, 0, none⟩) l1).trans d0; have l2 : w.heap.size + 1 < w2.heap.size := Nat.lt_of_lt_of_le l1 hb2.size; clear hb2)
        | (go_at_call 74; with_reducible refine (H2 _ _ f0).out.mono ?_; rintro e w3 ⟨rfl, hb3⟩; have HB3 := Aside0.mk (below_step HB2.out hb3); have g2 := (hb3.cell (p := ⟨w.heap.size, 2, none⟩) (by show w.heap.size < w2.heap.size; omega)).trans e2; have h0 := (hb3.cell (p := ⟨w.heap.size + 1, 0, none⟩) l2).trans f0; clear hb3)
        | (go_at_call 74; with_reducible refine (H3 _ _ h0).out.mono ?_; rintro e w4 ⟨rfl, hb4⟩; have HB4 := Aside0.mk (below_step HB3.out hb4); clear hb4))
      go_ret
      exact ⟨by first | rfl | simp, by first | exact HB4.out | exact HB3.out | exact HB2.out⟩
    | false =>
      cases b2 with
      | false =>
        go_enter Try.func59, Try.ntmps59
        go_wp2_with (first
          | (go_at_call 75; with_reducible refine (HI _).out.mono ?_; rintro e w1 ⟨rfl, hd⟩; have hb1 := drawn0_below hd; have HB1 := Aside0.mk (below_step (below_alloc (below_alloc (Below.refl w.heap.size w) _) _) hb1); have c0 := (hb1.cell (p := ⟨w.heap.size, 0, none⟩) (by simp; omega)).trans (HM3.out _).1; have c1 := (hb1.cell (p := ⟨w.heap.size, 1, none⟩) (by simp; omega)).trans (HM3.out _).2.1; have c2 := (hb1.cell (p := ⟨w.heap.size, 2, none⟩) (by simp; omega)).trans (HM3.out _).2.2.1; have d0 := (hb1.cell (p := ⟨w.heap.size + 1, 0, none⟩) (by simp)).trans (HM3.out _).2.2.2; have l1 : w.heap.size + 1 < w1.heap.size := Nat.lt_of_lt_of_le (by simp) hb1.size; clear hd hb1)
          | (go_at_call 76; refine (HCF _ HB1.out (w.heap.size + 1) d0).out.mono ?_; rintro e w2 ⟨rfl, hb2⟩; have HB2 := Aside0.mk (below_step HB1.out hb2); have e0 := (hb2.cell (p := ⟨w.heap.size, 0, none⟩) (by show w.heap.size < w1.heap.size; omega)).trans c0; have e1 := (hb2.cell (p := ⟨w.heap.size, 1, none⟩) (by show w.heap.size < w1.heap.size; omega)).trans c1; have e2 := (hb2.cell (p := ⟨w.heap.size, 2, none⟩) (by show w.heap.size < w1.heap.size; omega)).trans c2; have f0 := (hb2.cell (p := ⟨w.heap.size + 1, 0, none⟩) l1).trans d0; have l2 : w.heap.size + 1 < w2.heap.size := Nat.lt_of_lt_of_le l1 hb2.size; clear hb2)
          | (go_at_call 74; with_reducible refine (H2 _ _ f0).out.mono ?_; rintro e w3 ⟨rfl, hb3⟩; have HB3 := Aside0.mk (below_step HB2.out hb3); have g2 := (hb3.cell (p := ⟨w.heap.size, 2, none⟩) (by show w.heap.size < w2.heap.size; omega)).trans e2; have h0 := (hb3.cell (p := ⟨w.heap.size + 1, 0, none⟩) l2).trans f0; clear hb3)
          | (go_at_call 74; with_reducible refine (H3 _ _ h0).out.mono ?_; rintro e w4 ⟨rfl, hb4⟩; have HB4 := Aside0.mk (below_step HB3.out hb4); clear hb4))
        go_ret
        exact ⟨by first | rfl | simp, by first | exact HB4.out | exact HB3.out | exact HB2.out⟩
      | true =>
        go_enter Try.func59, Try.ntmps59
        go_wp2_with (first
          | (go_at_call 75; with_reducible refine (HI _).out.mono ?_; rintro e w1 ⟨rfl, hd⟩; have hb1 := drawn0_below hd; have HB1 := Aside0.mk (below_step (below_alloc (below_alloc (Below.refl w.heap.size w) _) _) hb1); have c0 := (hb1.cell (p := ⟨w.heap.size, 0, none⟩) (by simp; omega)).trans (HM3.out _).1; have c1 := (hb1.cell (p := ⟨w.heap.size, 1, none⟩) (by simp; omega)).trans (HM3.out _).2.1; have c2 := (hb1.cell (p := ⟨w.heap.size, 2, none⟩) (by simp; omega)).trans (HM3.out _).2.2.1; have d0 := (hb1.cell (p := ⟨w.heap.size + 1, 0, none⟩) (by simp)).trans (HM3.out _).2.2.2; have l1 : w.heap.size + 1 < w1.heap.size := Nat.lt_of_lt_of_le (by simp) hb1.size; clear hd hb1)
          | (go_at_call 76; refine (HCF _ HB1.out (w.heap.size + 1) d0).out.mono ?_; rintro e w2 ⟨rfl, hb2⟩; have HB2 := Aside0.mk (below_step HB1.out hb2); have e0 := (hb2.cell (p := ⟨w.heap.size, 0, none⟩) (by show w.heap.size < w1.heap.size; omega)).trans c0; have e1 := (hb2.cell (p := ⟨w.heap.size, 1, none⟩) (by show w.heap.size < w1.heap.size; omega)).trans c1; have e2 := (hb2.cell (p := ⟨w.heap.size, 2, none⟩) (by show w.heap.size < w1.heap.size; omega)).trans c2; have f0 := (hb2.cell (p := ⟨w.heap.size + 1, 0, none⟩) l1).trans d0; have l2 : w.heap.size + 1 < w2.heap.size := Nat.lt_of_lt_of_le l1 hb2.size; clear hb2)
          | (go_at_call 74; with_reducible refine (H2 _ _ f0).out.mono ?_; rintro e w3 ⟨rfl, hb3⟩; have HB3 := Aside0.mk (below_step HB2.out hb3); have g2 := (hb3.cell (p := ⟨w.heap.size, 2, none⟩) (by show w.heap.size < w2.heap.size; omega)).trans e2; have h0 := (hb3.cell (p := ⟨w.heap.size + 1, 0, none⟩) l2).trans f0; clear hb3)
          | (go_at_call 74; with_reducible refine (H3 _ _ h0).out.mono ?_; rintro e w4 ⟨rfl, hb4⟩; have HB4 := Aside0.mk (below_step HB3.out hb4); clear hb4))
        go_ret
        exact ⟨by first | rfl | simp, by first | exact HB4.out | exact HB3.out | exact HB2.out⟩
  · have hin : impl_in.f (l.length : Int) 1 5 = some false := by rw [in_f, decide_eq_false (by omega)]
    have HI := fun w => Aside0.mk (impl_in.calls (l.length : Int) 1 5 _ w hin)
    have e : mok l st en = false := by unfold mok; rw [decide_eq_false hn, Bool.false_and]
    rw [e]
    clear e hn hin
    go_enter Try.func59, Try.ntmps59
    go_wp2_with (go_at_call 75; refine (HI _).out.mono ?_; rintro e w1 ⟨rfl, hd⟩; have hb1 := drawn0_below hd)
    all_goals go_ret
    all_goals exact ⟨rfl, below_step (below_alloc (below_alloc (Below.refl _ _) _) _) hb1⟩
end Go.Proofs.Ytgheopbdmijlkaa.P

-- slices.Index and slices.Contains over lists of numbers.
namespace Go.Proofs.Ytgheopbdmijlkaa.P
open Go.RowKit Go.Proofs.YtgheopbdmijlkaaW.PrintWords Go.Proofs.YtgheopbdmijlkaaW.PrintLast Go.Proofs.YtgheopbdmijlkaaW.PrintMore
set_option linter.unusedVariables false
set_option linter.unusedSimpArgs false

theorem idx_at (l : List Int) (hl : l.length ≤ 1000000) (x : Int) (F : Nat) (hF : F < l.length) (h : rd l (F : Int) = x) (hno : ∀ j : Nat, j < F → rd l (j : Int) ≠ x) : ∀ (d i : Nat), i ≤ F → F - i = d → Ev (fun k => slices_Index_int_int.l0 k l x l.length i) (F : Int) := by
  intro d
  induction d with
  | zero =>
    intro i hi hd
    have e : i = F := by omega
    subst e
    refine Ev.step (f := fun k => some (i : Int)) (fun k => ?_) (Ev.now _)
    simp only [slices_Index_int_int.l0]
    rw [if_pos (by omega), if_pos (by omega), if_pos (by omega), if_pos h.symm]
  | succ d ih =>
    intro i hi hd
    refine Ev.step (fun k => ?_) (ih (i + 1) (by omega) (by omega))
    simp only [slices_Index_int_int.l0]
    rw [if_pos (by omega), if_pos (by omega), if_pos (by omega), if_neg (fun e => hno i (by omega) e.symm), wsucc (by omega)]
theorem idx_no (l : List Int) (hl : l.length ≤ 1000000) (x : Int) (hno : ∀ j : Nat, j < l.length → rd l (j : Int) ≠ x) : ∀ (d i : Nat), i ≤ l.length → l.length - i = d → Ev (fun k => slices_Index_int_int.l0 k l x l.length i) (-1) := by
  intro d
  induction d with
  | zero =>
    intro i hi hd
    refine Ev.step (f := fun k => some (-1 : Int)) (fun k => ?_) (Ev.now _)
    simp only [slices_Index_int_int.l0]; rw [if_neg (by omega)]
  | succ d ih =>
    intro i hi hd
    refine Ev.step (fun k => ?_) (ih (i + 1) (by omega) (by omega))
    simp only [slices_Index_int_int.l0]
    rw [if_pos (by omega), if_pos (by omega), if_pos (by omega), if_neg (fun e => hno i (by omega) e.symm), wsucc (by omega)]
theorem index_at (l : List Int) (hl : l.length ≤ 1000000) (x : Int) (F : Nat) (hF : F < l.length) (h : rd l (F : Int) = x) (hno : ∀ j : Nat, j < F → rd l (j : Int) ≠ x) : Ev (fun k => slices_Index_int_int.f k l x) (F : Int) :=
  idx_at l hl x F hF h hno _ 0 (Nat.zero_le _) rfl
theorem cont_yes (l : List Int) (hl : l.length ≤ 1000000) (x : Int) (F : Nat) (hF : F < l.length) (h : rd l (F : Int) = x) (hno : ∀ j : Nat, j < F → rd l (j : Int) ≠ x) : Ev (fun k => slices_Contains_int_int.f k l x) true := by
  have := Ev.bind (f := fun k t => some (decide (t ≥ 0))) (index_at l hl x F hF h hno) (by rw [decide_eq_true (by omega : (F : Int) ≥ 0)]; exact Ev.now _)
  exact Ev.congr (fun k => rfl) this
theorem cont_no (l : List Int) (hl : l.length ≤ 1000000) (x : Int) (hno : ∀ j : Nat, j < l.length → rd l (j : Int) ≠ x) : Ev (fun k => slices_Contains_int_int.f k l x) false := by
  have h := idx_no l hl x hno _ 0 (Nat.zero_le _) rfl
  exact Ev.congr (fun k => rfl) (Ev.bind (f := fun k t => some (decide (t ≥ 0))) h (Ev.now _))
end Go.Proofs.Ytgheopbdmijlkaa.P

-- spec.l6In: a number in a range.
namespace Go.Proofs.Ytgheopbdmijlkaa.P
open Go.RowKit Go.Proofs.YtgheopbdmijlkaaW.PrintWords Go.Proofs.YtgheopbdmijlkaaW.PrintLast Go.Proofs.YtgheopbdmijlkaaW.PrintMore
set_option linter.unusedVariables false
set_option linter.unusedSimpArgs false

theorem l6in_f (a b c : Int) : spec_l6In.f a b c = some (decide (b ≤ a ∧ a ≤ c)) := by
  unfold spec_l6In.f
  by_cases h : a ≥ b
  · rw [if_pos h]; congr 1; apply decide_eq_decide.2; omega
  · rw [if_neg h]; congr 1; symm; rw [decide_eq_false_iff_not]; omega

end Go.Proofs.Ytgheopbdmijlkaa.P

-- spec.MachIn: whether a machine is one.
namespace Go.Proofs.Ytgheopbdmijlkaa.P
open Go.RowKit Go.Proofs.YtgheopbdmijlkaaW.PrintWords Go.Proofs.YtgheopbdmijlkaaW.PrintLast Go.Proofs.YtgheopbdmijlkaaW.PrintMore
set_option linter.unusedVariables false
set_option linter.unusedSimpArgs false

theorem mall_val {n : Nat} (h : 1 ≤ n ∧ n ≤ 5) : wrap64 (shl .i64 1 (n : Int) - 1) = mall n := by
  rcases (show n = 1 ∨ n = 2 ∨ n = 3 ∨ n = 4 ∨ n = 5 by omega) with h | h | h | h | h <;> rw [h] <;> decide +kernel
theorem l6MachIn_no (l : List Int) (st en : Int) (hl : l.length ≤ 1000000000000) (hn : ¬ (1 ≤ l.length ∧ l.length ≤ 5)) : ∀ (d i : Nat), i ≤ l.length → l.length - i = d → Ev (fun k => spec_MachIn.l0 k l.length i l st en) false := by
  intro d
  induction d with
  | zero =>
    intro i hi hd
    refine Ev.step (f := fun k => some false) (fun k => ?_) (Ev.now _)
    simp only [spec_MachIn.l0]
    rw [if_neg (by omega), l6in_f, decide_eq_false (by omega), Option.bind_some, if_neg (by decide)]
  | succ d ih =>
    intro i hi hd
    cases hb : decide (0 ≤ rd l (i : Int) ∧ rd l (i : Int) ≤ wrap64 (shl .i64 1 (l.length : Int) - 1)) with
    | true =>
      refine Ev.step (fun k => ?_) (ih (i + 1) (by omega) (by omega))
      simp only [spec_MachIn.l0]
      rw [if_pos (by omega), if_pos (by omega), if_pos (by omega), if_pos (by omega), l6in_f, hb, Option.bind_some, if_pos rfl, wsucc (by omega)]
    | false =>
      refine Ev.step (f := fun k => some false) (fun k => ?_) (Ev.now _)
      simp only [spec_MachIn.l0]
      rw [if_pos (by omega), if_pos (by omega), if_pos (by omega), if_pos (by omega), l6in_f, hb, Option.bind_some, if_neg (by decide)]
theorem l6MachIn_yes (l : List Int) (st en : Int) (hn : 1 ≤ l.length ∧ l.length ≤ 5) : ∀ (d i : Nat), i ≤ l.length → l.length - i = d → (∀ j : Nat, j < i → decide (0 ≤ rd l (j : Int) ∧ rd l (j : Int) ≤ mall l.length) = true) → Ev (fun k => spec_MachIn.l0 k l.length i l st en) (mok l st en) := by
  have hv := mall_val hn
  intro d
  induction d with
  | zero =>
    intro i hi hd hf
    have e : i = l.length := by omega
    subst e
    have hany : anyI l (fun x => !decide (0 ≤ x ∧ x ≤ mall l.length)) = false := by
      unfold anyI
      refine dec_false ?_
      rintro ⟨j, h1, h2⟩
      have h2 : (!decide (0 ≤ rd l (j : Int) ∧ rd l (j : Int) ≤ mall l.length)) = true := h2
      rw [hf j h1] at h2; cases h2
    have e : mok l st en = (decide (0 ≤ st ∧ st ≤ mall l.length) && decide (0 ≤ en ∧ en ≤ mall l.length)) := by unfold mok; rw [hany, decide_eq_true hn]; rfl
    rw [e]
    cases h1 : decide (0 ≤ st ∧ st ≤ mall l.length) with
    | false =>
      refine Ev.step (f := fun k => some false) (fun k => ?_) (Ev.now _)
      simp only [spec_MachIn.l0]
      rw [if_neg (by omega), l6in_f, decide_eq_true (by omega), Option.bind_some, if_pos rfl, if_pos (by omega), hv, l6in_f, h1, Option.bind_some, if_neg (by decide)]
    | true =>
      refine Ev.step (f := fun k => some (decide (0 ≤ en ∧ en ≤ mall l.length))) (fun k => ?_) (Ev.now _)
      simp only [spec_MachIn.l0]
      rw [if_neg (by omega), l6in_f, decide_eq_true (by omega), Option.bind_some, if_pos rfl, if_pos (by omega), hv, l6in_f, h1, Option.bind_some, if_pos rfl, l6in_f, Option.bind_some]
  | succ d ih =>
    intro i hi hd hf
    cases hb : decide (0 ≤ rd l (i : Int) ∧ rd l (i : Int) ≤ mall l.length) with
    | true =>
      refine Ev.step (fun k => ?_) (ih (i + 1) (by omega) (by omega) (fun j hj => by
        rcases Nat.lt_or_ge j i with x | x
        · exact hf j x
        · rw [show j = i by omega]; exact hb))
      simp only [spec_MachIn.l0]
      rw [hv, if_pos (by omega), if_pos (by omega), if_pos (by omega), if_pos (by omega), l6in_f, hb, Option.bind_some, if_pos rfl, wsucc (by omega)]
    | false =>
      have hany : anyI l (fun x => !decide (0 ≤ x ∧ x ≤ mall l.length)) = true := by
        unfold anyI
        exact dec_true ⟨i, by omega, by show (!decide (0 ≤ rd l (i : Int) ∧ rd l (i : Int) ≤ mall l.length)) = true; rw [hb]; rfl⟩
      have e : mok l st en = false := by unfold mok; rw [hany, decide_eq_true hn]; rfl
      rw [e]
      refine Ev.step (f := fun k => some false) (fun k => ?_) (Ev.now _)
      simp only [spec_MachIn.l0]
      rw [hv, if_pos (by omega), if_pos (by omega), if_pos (by omega), if_pos (by omega), l6in_f, hb, Option.bind_some, if_neg (by decide)]
theorem l6MachIn_f (l : List Int) (st en : Int) (hl : l.length ≤ 1000000000000) : Ev (fun k => spec_MachIn.f k l st en) (mok l st en) := by
  by_cases hn : 1 ≤ l.length ∧ l.length ≤ 5
  · exact l6MachIn_yes l st en hn _ 0 (Nat.zero_le _) rfl (fun j hj => by omega)
  · have e : mok l st en = false := by unfold mok; rw [decide_eq_false hn]; rfl
    rw [e]
    exact l6MachIn_no l st en hl hn _ 0 (Nat.zero_le _) rfl
end Go.Proofs.Ytgheopbdmijlkaa.P

-- spec.l6mStep: the states to which one may step.
namespace Go.Proofs.Ytgheopbdmijlkaa.P
open Go.RowKit Go.Proofs.YtgheopbdmijlkaaW.PrintWords Go.Proofs.YtgheopbdmijlkaaW.PrintLast Go.Proofs.YtgheopbdmijlkaaW.PrintMore
set_option linter.unusedVariables false
set_option linter.unusedSimpArgs false

theorem l6mStep_l0 (l : List Int) (hl : l.length ≤ 1000000) (st en x : Int) : ∀ (d i : Nat), i ≤ l.length → l.length - i = d → Ev (fun k => spec_l6mStep.l0 k x (nxs l x i) i l st en) (nxt l x) := by
  intro d
  induction d with
  | zero =>
    intro i hi hd
    have e : i = l.length := by omega
    subst e
    refine Ev.step (f := fun k => some (nxt l x)) (fun k => ?_) (Ev.now _)
    simp only [spec_l6mStep.l0]; rw [if_neg (by omega)]; rfl
  | succ d ih =>
    intro i hi hd
    refine Ev.step (fun k => ?_) (ih (i + 1) (by omega) (by omega))
    simp only [spec_l6mStep.l0, nxs]
    rw [if_pos (by omega), if_pos (by omega), wsucc (by omega)]
    split <;> rfl
theorem l6mStep_f (l : List Int) (hl : l.length ≤ 1000000) (st en x : Int) : Ev (fun k => spec_l6mStep.f k l st en x) (nxt l x) := l6mStep_l0 l hl st en x _ 0 (Nat.zero_le _) rfl
end Go.Proofs.Ytgheopbdmijlkaa.P

-- laws.eqIntS compares lists of numbers.
namespace Go.Proofs.Ytgheopbdmijlkaa.P
open Go.RowKit Go.Proofs.YtgheopbdmijlkaaW.PrintWords Go.Proofs.YtgheopbdmijlkaaW.PrintLast Go.Proofs.YtgheopbdmijlkaaW.PrintMore
set_option linter.unusedVariables false
set_option linter.unusedSimpArgs false

theorem rd_nat (l : List Int) {i : Nat} (h : i < l.length) : rd l (i : Int) = l[i] := by simp [rd, List.getD_eq_getElem?_getD, h]
theorem eqInts_l0 (a b : List Int) (hl : a.length = b.length) (hs : a.length ≤ 4611686018427387904) : ∀ (d i : Nat), i ≤ a.length → a.length - i = d → Ev (fun k => laws_eqIntS.l0 k a b i) (decide (a.drop i = b.drop i)) := by
  intro d
  induction d with
  | zero =>
    intro i h1 h2
    have e1 : a.drop i = [] := by rw [List.drop_eq_nil_iff]; omega
    have e2 : b.drop i = [] := by rw [List.drop_eq_nil_iff]; omega
    refine Ev.step (f := fun k => some true) (fun k => ?_) (by rw [e1, e2]; exact Ev.now _)
    simp only [laws_eqIntS.l0]; rw [if_neg (by omega)]
  | succ d ih =>
    intro i h1 h2
    have ha : i < a.length := by omega
    have hb : i < b.length := by omega
    have ea := List.drop_eq_getElem_cons ha
    have eb := List.drop_eq_getElem_cons hb
    by_cases he : a[i] = b[i]
    · have := ih (i + 1) (by omega) (by omega)
      have e : decide (a.drop i = b.drop i) = decide (a.drop (i + 1) = b.drop (i + 1)) := by
        apply decide_eq_decide.2
        rw [ea, eb, he]
        exact ⟨fun h => (List.cons.inj h).2, fun h => by rw [h]⟩
      rw [e]
      refine Ev.step (fun k => ?_) this
      simp only [laws_eqIntS.l0]
      rw [if_pos (by omega), if_pos (by omega), if_pos (by omega), rd_nat a ha, rd_nat b hb, if_pos he, wsucc (by omega)]
    · have e : decide (a.drop i = b.drop i) = false := by
        rw [decide_eq_false_iff_not, ea, eb]
        intro h; injection h with h _; exact he h
      rw [e]
      refine Ev.step (f := fun k => some false) (fun k => ?_) (Ev.now _)
      simp only [laws_eqIntS.l0]
      rw [if_pos (by omega), if_pos (by omega), if_pos (by omega), rd_nat a ha, rd_nat b hb, if_neg he]
theorem eqInts_f (a b : List Int) (hs : a.length ≤ 4611686018427387904) : Ev (fun k => laws_eqIntS.f k a b) (decide (a = b)) := by
  by_cases hl : a.length = b.length
  · have := eqInts_l0 a b hl hs _ 0 (by omega) rfl
    refine Ev.congr (fun k => ?_) (by simpa using this)
    unfold laws_eqIntS.f; rw [if_pos (by omega)]
  · have e : decide (a = b) = false := by rw [decide_eq_false_iff_not]; intro h; exact hl (by rw [h])
    rw [e]
    refine Ev.congr (f := fun k => some false) (fun k => ?_) (Ev.now _)
    unfold laws_eqIntS.f; rw [if_neg (by omega)]

end Go.Proofs.Ytgheopbdmijlkaa.P

-- spec.l1Less comes to the tidy form.
namespace Go.Proofs.Ytgheopbdmijlkaa.P
open Go.RowKit Go.Proofs.YtgheopbdmijlkaaW.PrintWords Go.Proofs.YtgheopbdmijlkaaW.PrintLast Go.Proofs.YtgheopbdmijlkaaW.PrintMore
set_option linter.unusedVariables false
set_option linter.unusedSimpArgs false
/-- The search for a lesser ring: from divisor d on, and place i. -/
theorem less_l1 (t r : List Bool) (R : List Bool × List Bool) (hr : r.length ≤ 70368744177664) (d : Nat) (hd : 0 < d) (hdl : d < r.length)
    (hno : ¬ IsPer r d → Ev (fun k => spec_l1Less.l0 k r.length ((d + 1 : Nat) : Int) t r) R)
    (hyes : IsPer r d → Ev (fun k => spec_l1Less.f k t (r.take d)) R) :
    ∀ (m i : Nat), d ≤ i → i ≤ r.length → r.length - i = m → ∀ b : Bool, (b = true ↔ r.length % d = 0 ∧ ∀ j, d ≤ j → j < i → r.getD j false = r.getD (j - d) false) →
      Ev (fun k => spec_l1Less.l1 k r.length d b i t r) R := by
  have hw : wrap64 ((d : Int) + 1) = ((d + 1 : Nat) : Int) := by rw [w64 (by omega) (by omega)]; omega
  intro m
  induction m with
  | zero =>
    intro i h1 h2 h3 b hb
    have e : i = r.length := by omega
    subst e
    cases b with
    | true =>
      refine Ev.step (f := fun k => (spec_l1Less.f k t (r.take d)).bind fun bt273 => (some (bt273.1, bt273.2))) (fun k => ?_) (Ev.bind (hyes ?_) (Ev.now _))
      · simp only [spec_l1Less.l1]; rw [if_neg (by omega), if_pos trivial, if_pos (by omega), if_pos (by omega)]; rfl
      · exact ⟨(hb.1 rfl).1, (hb.1 rfl).2⟩
    | false =>
      refine Ev.step (f := fun k => spec_l1Less.l0 k r.length ((d + 1 : Nat) : Int) t r) (fun k => ?_) (hno ?_)
      · simp only [spec_l1Less.l1]; rw [if_neg (by omega), if_neg (by decide), hw]
      · intro hp; exact absurd (hb.2 ⟨hp.1, hp.2⟩) (by decide)
  | succ m ih =>
    intro i h1 h2 h3 b hb
    cases b with
    | true =>
      have hi : wrap64 ((i : Int) + 1) = ((i + 1 : Nat) : Int) := by rw [w64 (by omega) (by omega)]; omega
      have hs : wrap64 ((i : Int) - (d : Int)) = ((i - d : Nat) : Int) := by rw [w64 (by omega) (by omega)]; omega
      refine Ev.step (f := fun k => spec_l1Less.l1 k r.length d (r.getD i false == r.getD (i - d) false) ((i + 1 : Nat) : Int) t r) (fun k => ?_) (ih (i + 1) (by omega) (by omega) (by omega) _ ?_)
      · simp only [spec_l1Less.l1]
        rw [if_pos (by omega), if_pos trivial, if_pos (by omega), if_pos (by omega), hs, if_pos (by omega), if_pos (by omega), hi, rdOf_nat, rdOf_nat]
      · have hb' := hb.1 rfl
        rw [beq_iff_eq]
        constructor
        · intro he
          refine ⟨hb'.1, fun j hj hj2 => ?_⟩
          rcases Nat.lt_or_ge j i with hlt | hge
          · exact hb'.2 j hj hlt
          · have : j = i := by omega
            subst this; exact he
        · intro hh; exact hh.2 i h1 (by omega)
    | false =>
      refine Ev.step (f := fun k => spec_l1Less.l0 k r.length ((d + 1 : Nat) : Int) t r) (fun k => ?_) (hno ?_)
      · simp only [spec_l1Less.l1]; rw [if_pos (by omega), if_neg (by decide), hw]
      · intro hp; exact absurd (hb.2 ⟨hp.1, fun j hj hj2 => hp.2 j hj (by omega)⟩) (by decide)

theorem less_f : ∀ (n : Nat) (t r : List Bool), t.length + r.length = n → r ≠ [] → n ≤ 70368744177664 → ∃ t' r', Ev (fun k => spec_l1Less.f k t r) (t', r') ∧ Tidy t r t' r' := by
  intro n
  induction n using Nat.strongRecOn with
  | _ n ih =>
    intro t r hn hr hl
    have hpos := List.length_pos_iff.2 hr
    -- at the search's end
    have hend : (∀ d, 0 < d → d < r.length → ¬ IsPer r d) → ∃ t' r', Ev (fun k => spec_l1Less.l0 k r.length (r.length : Int) t r) (t', r') ∧ Tidy t r t' r' := by
      intro hno
      have hprim := prim_of hr hno
      by_cases ht : t = []
      · subst ht
        refine ⟨[], r, Ev.step (f := fun k => some (([] : List Bool), r)) (fun k => ?_) (Ev.now _), ⟨hprim, .inl rfl⟩, fun _ => rfl, Nat.le_refl _, Nat.le_refl _⟩
        simp only [spec_l1Less.l0]; rw [if_neg (by omega), if_neg (by simp)]
      · have htp := List.length_pos_iff.2 ht
        have w1 : wrap64 ((t.length : Int) - 1) = ((t.length - 1 : Nat) : Int) := by rw [w64 (by omega) (by omega)]; omega
        have w2 : wrap64 ((r.length : Int) - 1) = ((r.length - 1 : Nat) : Int) := by rw [w64 (by omega) (by omega)]; omega
        by_cases he : t.getD (t.length - 1) false = r.getD (r.length - 1) false
        · obtain ⟨t', r', hev, htd⟩ := ih _ (by have := rotR_length hr; rw [this, List.length_take]; omega) (t.take (t.length - 1)) (rotR r) rfl (by simp [rotR]) (by rw [rotR_length hr, List.length_take]; omega)
          refine ⟨t', r', Ev.step (f := fun k => (spec_l1Less.f k (t.take (t.length - 1)) (rotR r)).bind fun bt260 => (some (bt260.1, bt260.2))) (fun k => ?_) (Ev.bind hev (Ev.now _)), htd.canon, fun x => by rw [htd.has, rot_has ht hr he], by have := htd.tl; rw [List.length_take] at this; omega, by have := htd.rl; rw [rotR_length hr] at this; omega⟩
          simp only [spec_l1Less.l0]
          rw [if_neg (by omega), if_pos (by omega), w1, w2, if_pos (by omega), if_pos (by omega), if_pos (by omega), if_pos (by omega), rdOf_nat, rdOf_nat, if_pos (by rw [he]; exact beq_self_eq_true _)]
          simp only [Option.bind_some]
          rw [if_pos (by omega)]
          simp only [Int.toNat_natCast]
          rw [if_pos (by simp; omega), if_pos (by omega)]
          rfl
        · refine ⟨t, r, Ev.step (f := fun k => some (t, r)) (fun k => ?_) (Ev.now _), ⟨hprim, .inr he⟩, fun _ => rfl, Nat.le_refl _, Nat.le_refl _⟩
          simp only [spec_l1Less.l0]
          rw [if_neg (by omega), if_pos (by omega), w1, w2, if_pos (by omega), if_pos (by omega), if_pos (by omega), if_pos (by omega), rdOf_nat, rdOf_nat, if_neg (by rw [beq_iff_eq]; exact he)]
    -- the search
    have hsearch : ∀ (m d : Nat), 0 < d → d ≤ r.length → r.length - d = m → (∀ d', 0 < d' → d' < d → ¬ IsPer r d') → ∃ t' r', Ev (fun k => spec_l1Less.l0 k r.length (d : Int) t r) (t', r') ∧ Tidy t r t' r' := by
      intro m
      induction m with
      | zero =>
        intro d h0 h1 h2 h3
        have e : d = r.length := by omega
        subst e
        exact hend h3
      | succ m ihm =>
        intro d h0 h1 h2 h3
        have hmod : Int.tmod (r.length : Int) (d : Int) = ((r.length % d : Nat) : Int) := by rw [Int.tmod_eq_emod_of_nonneg (by omega)]; rfl
        have step : ∀ R, Ev (fun k => spec_l1Less.l1 k r.length d ((Int.tmod (r.length : Int) (d : Int)) == 0) d t r) R → Ev (fun k => spec_l1Less.l0 k r.length (d : Int) t r) R := fun R h => by
          refine Ev.step (fun k => ?_) h
          simp only [spec_l1Less.l0]; rw [if_pos (by omega), if_neg (by omega)]
        have hb : ((Int.tmod (r.length : Int) (d : Int)) == 0) = true ↔ r.length % d = 0 ∧ ∀ j, d ≤ j → j < d → r.getD j false = r.getD (j - d) false := by
          rw [hmod, beq_iff_eq]
          constructor
          · intro h; exact ⟨by omega, fun j a b => by omega⟩
          · rintro ⟨h, _⟩; rw [h]; rfl
        by_cases hp : IsPer r d
        · have hlt : (r.take d).length = d := by rw [List.length_take]; omega
          obtain ⟨t', r', hev, htd⟩ := ih (t.length + (r.take d).length) (by omega) t (r.take d) rfl (by intro e; rw [e] at hlt; simp at hlt; omega) (by omega)
          refine ⟨t', r', step _ (less_l1 t r _ (by omega) d h0 (by omega) (fun h => absurd hp h) (fun _ => hev) _ d (Nat.le_refl _) (by omega) rfl _ hb), htd.canon, fun x => by rw [htd.has, take_has hp h0 h1], htd.tl, by have := htd.rl; omega⟩
        · obtain ⟨t', r', hev, htd⟩ := ihm (d + 1) (by omega) (by omega) (by omega) (fun d' a b => by
            rcases Nat.lt_or_ge d' d with h | h
            · exact h3 d' a h
            · have : d' = d := by omega
              subst this; exact hp)
          exact ⟨t', r', step _ (less_l1 t r _ (by omega) d h0 (by omega) (fun _ => hev) (fun h => absurd h hp) _ d (Nat.le_refl _) (by omega) rfl _ hb), htd⟩
    obtain ⟨t', r', hev, htd⟩ := hsearch (r.length - 1) 1 (by omega) (by omega) rfl (fun d' a b => by omega)
    exact ⟨t', r', Ev.step (fun k => by simp only [spec_l1Less.f]; rfl) hev, htd⟩

theorem less_cn (t r : List Bool) (hr : r ≠ []) (hl : t.length + r.length ≤ 70368744177664) : Ev (fun k => spec_l1Less.f k t r) (cn (hasB t r)) := by
  obtain ⟨t', r', h, ht⟩ := less_f _ t r rfl hr hl
  rw [ht.cn]; exact h

end Go.Proofs.Ytgheopbdmijlkaa.P

-- spec.l6mShape and spec.l6mSet: the set of the numbers that a machine takes.
namespace Go.Proofs.Ytgheopbdmijlkaa.P
open Go.RowKit Go.Proofs.YtgheopbdmijlkaaW.PrintWords Go.Proofs.YtgheopbdmijlkaaW.PrintLast Go.Proofs.YtgheopbdmijlkaaW.PrintMore
set_option linter.unusedVariables false
set_option linter.unusedSimpArgs false

theorem rd_set (l : List Int) (i j : Nat) (x : Int) (hi : i < l.length) : rd (l.set i x) (j : Int) = if i = j then x else rd l (j : Int) := by
  by_cases h : i = j
  · subst h; rw [if_pos rfl]; simp [rd, List.getD_eq_getElem?_getD, hi]
  · rw [if_neg h]; simp [rd, List.getD_eq_getElem?_getD, List.getElem?_set, h]
/-- The marks behind i steps: a set that was met holds the number of the step behind it. -/
structure Marks (l : List Int) (st : Int) (n i : Nat) (at_ : List Int) : Prop where
  len : at_.length = 2 ^ n
  met : ∀ j, j < i → rd at_ (orb l st j) = ((j + 1 : Nat) : Int)
  new : ∀ v : Nat, v < 2 ^ n → (∀ j, j < i → orb l st j ≠ (v : Int)) → rd at_ (v : Int) = 0
theorem l6mShape_l0 (l : List Int) (st en : Int) {n T F : Nat} (hn : n ≤ 5) (hl : l.length ≤ 1000000) (hsh : Shape l st T F) (hT : T ≤ 32) (hin : ∀ i, ∃ v : Nat, orb l st i = (v : Int) ∧ v < 2 ^ n) : ∀ (d i : Nat) (at_ : List Int), i ≤ T → T - i = d → Marks l st n i at_ →
    Ev (fun k => spec_l6mShape.l0 k (orbs l st i) at_ (orb l st i) l st en) (orbs l st T, (F : Int)) := by
  intro d
  induction d with
  | zero =>
    intro i at_ hi hd hm
    have e : i = T := by omega
    subst e
    obtain ⟨v, hv, hv2⟩ := hin i
    have h1 : rd at_ (orb l st i) = ((F + 1 : Nat) : Int) := by rw [hsh.same]; exact hm.met F hsh.lt
    have h2 : wrap64 (((F + 1 : Nat) : Int) - 1) = (F : Int) := by
      have := hsh.lt
      rw [w64 (by omega) (by omega)]; omega
    have hlen := hm.len
    refine Ev.step (f := fun k => some (orbs l st i, (F : Int))) (fun k => ?_) (Ev.now _)
    simp only [spec_l6mShape.l0]
    rw [h1, h2, if_pos (by clear h1 h2; omega), if_pos (by clear h1 h2; omega), if_neg (by clear h2; omega)]
  | succ d ih =>
    intro i at_ hi hd hm
    obtain ⟨v, hv, hv2⟩ := hin i
    have hlen := hm.len
    have h0 : rd at_ (orb l st i) = 0 := by
      rw [hv]
      exact hm.new v hv2 (fun j hj e => hsh.new j i hj (by omega) (e.trans hv.symm))
    have hm2 : Marks l st n (i + 1) (at_.set v ((i + 1 : Nat) : Int)) := by
      refine ⟨by rw [List.length_set]; exact hlen, fun j hj => ?_, fun u hu hno => ?_⟩
      · obtain ⟨u, hu, hu2⟩ := hin j
        rw [hu, rd_set _ _ _ _ (by omega)]
        by_cases e : v = u
        · have : j = i := by
            rcases Nat.lt_or_ge j i with x | x
            · exact absurd (by rw [hu, hv, e]) (hsh.new j i x (by omega))
            · omega
          rw [if_pos e, this]
        · rw [if_neg e, ← hu]
          refine hm.met j ?_
          rcases Nat.lt_or_ge j i with x | x
          · exact x
          · have : j = i := by omega
            subst this
            exact absurd (by rw [hv] at hu; omega) e
      · rw [rd_set _ _ _ _ (by omega), if_neg (fun e => hno i (Nat.lt_succ_self _) (by rw [hv, e]))]
        exact hm.new u hu (fun j hj => hno j (by omega))
    obtain ⟨K1, h1⟩ := ih (i + 1) _ (by omega) (by omega) hm2
    dsimp only at h1
    obtain ⟨K2, h2⟩ := l6mStep_f l hl st en (orb l st i)
    dsimp only at h2
    refine ⟨K1 + K2 + 1, fun k hk => ?_⟩
    obtain ⟨k, rfl⟩ : ∃ j, k = j + 1 := ⟨k - 1, by omega⟩
    have hlo := orbs_length l st i
    have g1 := h1 k (by omega)
    rw [orbs_succ] at g1
    have hl1 : ((orbs l st i ++ [orb l st i]).length : Int) = ((i + 1 : Nat) : Int) := by rw [List.length_append, hlo]; rfl
    have ht : (orb l st i).toNat = v := by rw [hv, Int.toNat_natCast]
    simp only [spec_l6mShape.l0]
    rw [h0, if_pos (by omega), if_pos (by omega), if_pos rfl, if_pos (by omega), Option.bind_some, h2 k (by omega), Option.bind_some, hl1, ht]
    exact g1
theorem l6mShape_f (l : List Int) (st en : Int) {T F : Nat} (hn : l.length ≤ 5) (hsh : Shape l st T F) (hT : T ≤ 32) (hin : ∀ i, ∃ v : Nat, orb l st i = (v : Int) ∧ v < 2 ^ l.length) : Ev (fun k => spec_l6mShape.f k l st en) (orbs l st T, (F : Int)) := by
  have hp : 2 ^ l.length ≤ 2 ^ 5 := Nat.pow_le_pow_right (by omega) hn
  have h := l6mShape_l0 l st en hn (by omega) hsh hT hin _ 0 (List.replicate (2 ^ l.length) 0) (Nat.zero_le _) rfl ⟨by simp, fun j hj => by omega, fun v hv _ => by simp [rd, List.getD_eq_getElem?_getD, hv]⟩
  refine Ev.congr (fun k => ?_) h
  unfold spec_l6mShape.f
  rw [shl_pow (by omega), Int.toNat_natCast, if_pos (Int.natCast_nonneg _), if_pos (by omega)]; rfl
theorem l6mSet_l0 (l : List Int) (st en : Int) {T F : Nat} (hsh : Shape l st T F) (hT : T ≤ 32) : ∀ (d i : Nat), i ≤ T → T - i = d →
    Ev (fun k => spec_l6mSet.l0 k (orbs l st T) F (mkT (mq l st en) i) i l st en) (cn (mq l st en)) := by
  have hlt := hsh.lt
  have hlo := orbs_length l st T
  intro d
  induction d with
  | zero =>
    intro i hi hd
    have e : i = T := by omega
    subst e
    have hlen := mkT_length (mq l st en) i
    have e1 : mkT (mq l st en) i = mkT (mq l st en) (F + (i - F)) := by rw [show F + (i - F) = i by omega]
    have hh : hasB (mkT (mq l st en) F) (mkR (mq l st en) F (i - F)) = mq l st en := mk_has (by omega) (hsh.per en)
    obtain ⟨t, r, h1, h2⟩ := less_f _ (mkT (mq l st en) F) (mkR (mq l st en) F (i - F)) rfl (mkR_ne _ (by omega)) (by rw [mkT_length, mkR_length]; omega)
    have h3 := h2.cn
    rw [hh] at h3
    obtain ⟨K, h1⟩ := h1
    dsimp only at h1
    refine ⟨K + 1, fun k hk => ?_⟩
    obtain ⟨k, rfl⟩ : ∃ j, k = j + 1 := ⟨k - 1, by omega⟩
    simp only [spec_l6mSet.l0]
    rw [if_neg (by omega), if_pos (by omega), if_pos (by omega), Int.toNat_natCast, e1, mkT_take, mkT_drop, h1 k (by omega), Option.bind_some, h3]
  | succ d ih =>
    intro i hi hd
    have hlen := mkT_length (mq l st en) i
    have h := ih (i + 1) (by omega) (by omega)
    rw [mkT_succ] at h
    refine Ev.step (fun k => ?_) h
    simp only [spec_l6mSet.l0]
    rw [if_pos (by omega), if_pos (by omega), if_pos (by omega), orbs_rd l st (by omega), wsucc (by omega)]
    rfl
theorem l6mSet_f (l : List Int) (st en : Int) {T F : Nat} (hn : l.length ≤ 5) (hsh : Shape l st T F) (hT : T ≤ 32) (hin : ∀ i, ∃ v : Nat, orb l st i = (v : Int) ∧ v < 2 ^ l.length) : Ev (fun k => spec_l6mSet.f k l st en) (cn (mq l st en)) := by
  refine Ev.congr (fun k => rfl) (Ev.bind (l6mShape_f l st en hn hsh hT hin) ?_)
  exact l6mSet_l0 l st en hsh hT _ 0 (Nat.zero_le _) rfl
end Go.Proofs.Ytgheopbdmijlkaa.P

-- impl.Machine.next: the states to which one may step.
namespace Go.Proofs.Ytgheopbdmijlkaa.P
open Go.RowKit Go.Proofs.YtgheopbdmijlkaaW.PrintWords Go.Proofs.YtgheopbdmijlkaaW.PrintLast Go.Proofs.YtgheopbdmijlkaaW.PrintMore
set_option linter.unusedVariables false
set_option linter.unusedSimpArgs false

theorem next_l0 (l : List Int) (hl : l.length ≤ 1000000) (x : Int) : ∀ (d i : Nat), i ≤ l.length → l.length - i = d → Ev (fun k => impl_Machine_next.l0 k x (nxs l x i) l l.length i) (nxt l x) := by
  intro d
  induction d with
  | zero =>
    intro i hi hd
    have e : i = l.length := by omega
    subst e
    refine Ev.step (f := fun k => some (nxt l x)) (fun k => ?_) (Ev.now _)
    simp only [impl_Machine_next.l0]; rw [if_neg (by omega)]; rfl
  | succ d ih =>
    intro i hi hd
    refine Ev.step (fun k => ?_) (ih (i + 1) (by omega) (by omega))
    simp only [impl_Machine_next.l0, nxs]
    rw [if_pos (by omega), if_pos (by omega), if_pos (by omega), wsucc (by omega)]
    split <;> rfl
theorem next_f (l : List Int) (hl : l.length ≤ 1000000) (st en x : Int) : Ev (fun k => impl_Machine_next.f k l st en x) (nxt l x) := next_l0 l hl x _ 0 (Nat.zero_le _) rfl
end Go.Proofs.Ytgheopbdmijlkaa.P

-- impl.setOf reads what parse tells.
namespace Go.Proofs.Ytgheopbdmijlkaa.P
open Go.RowKit Go.Proofs.YtgheopbdmijlkaaW.PrintWords Go.Proofs.YtgheopbdmijlkaaW.PrintLast Go.Proofs.YtgheopbdmijlkaaW.PrintMore
set_option linter.unusedVariables false
set_option linter.unusedSimpArgs false
theorem index1_f (s : ByteArray) (c : UInt8) : stringslite_Index.f s ⟨#[c]⟩ = some (if (chrs s).findIdx (· == c) < s.size then (((chrs s).findIdx (· == c) : Nat) : Int) else -1) := by
  unfold stringslite_Index.f; rw [if_pos (show (⟨#[c]⟩ : ByteArray).size = 1 from rfl)]; rfl
theorem cut_f (s : ByteArray) (c : UInt8) (hs : s.size ≤ 70368744177664) : strings_Cut.f s ⟨#[c]⟩ = some (if (chrs s).findIdx (· == c) < s.size then (s.extract 0 ((chrs s).findIdx (· == c)), s.extract ((chrs s).findIdx (· == c) + 1) s.size, true) else (s, ⟨#[]⟩, false)) := by
  unfold strings_Cut.f stringslite_Cut.f
  rw [index1_f]
  simp only [Option.bind_some]
  generalize (chrs s).findIdx (· == c) = p
  by_cases h : p < s.size
  · rw [if_pos h]
    have hw : wrap64 ((p : Int) + ((⟨#[c]⟩ : ByteArray).size : Int)) = ((p + 1 : Nat) : Int) := by
      have : (⟨#[c]⟩ : ByteArray).size = 1 := rfl
      rw [this, w64 (by omega) (by omega)]; omega
    rw [if_pos (by omega), if_pos (by omega), if_pos (by omega), hw, if_pos (by omega), if_pos (by omega), if_pos h]
    simp only [Int.toNat_natCast, Option.bind_some]
  · rw [if_neg h, if_neg (by omega), if_neg h]; rfl
theorem suffix_f (s : ByteArray) (c : UInt8) (hs : s.size ≤ 70368744177664) : strings_CutSuffix.f s ⟨#[c]⟩ = some (if (chrs s)[s.size - 1]? = some c then (s.extract 0 (s.size - 1), true) else (s, false)) := by
  unfold strings_CutSuffix.f stringslite_CutSuffix.f stringslite_HasSuffix.f
  have h1 : (⟨#[c]⟩ : ByteArray).size = 1 := rfl
  rw [h1]
  by_cases h : s.size = 0
  · rw [if_neg (by omega)]
    have : chrs s = [] := List.eq_nil_of_length_eq_zero (by rw [chrs_length]; exact h)
    simp [this]
  · have hw : wrap64 ((s.size : Int) - ((1 : Nat) : Int)) = ((s.size - 1 : Nat) : Int) := by rw [w64 (by omega) (by omega)]; omega
    rw [if_pos (by omega), hw, if_pos (by omega), if_pos (by omega)]
    simp only [Option.bind_some, Int.toNat_natCast]
    have e : (((s.extract (s.size - 1) s.size).toList == (⟨#[c]⟩ : ByteArray).toList) = true) ↔ (chrs s)[s.size - 1]? = some c := by
      rw [beq_iff_eq, ByteArray.toList_eq, ByteArray.toList_eq]
      show chrs _ = [c] ↔ _
      rw [chrs_extract, List.take_of_length_le (by rw [chrs_length]; omega)]
      have hl : s.size - 1 < (chrs s).length := by rw [chrs_length]; omega
      rw [List.drop_eq_getElem_cons hl, List.drop_of_length_le (by rw [chrs_length]; omega), List.getElem?_eq_getElem hl]
      simp
    by_cases hc : (chrs s)[s.size - 1]? = some c
    · rw [if_pos (e.2 hc), if_pos (by omega), if_pos (by omega), if_pos hc]; rfl
    · rw [if_neg (fun h => hc (e.1 h)), if_neg hc]; rfl

theorem isigns_ev (s : ByteArray) (hs : s.size ≤ 70368744177664) : ∀ (d : Nat) (i : Nat) (acc : List Bool), i ≤ s.size → s.size - i = d → acc.length ≤ i →
    Ev (fun k => impl_signs.l0 k acc (bytesOf s) ((bytesOf s).length : Int) i) (match bitsL ((chrs s).drop i) with | some l => (acc ++ l, decide ((acc ++ l).length ≤ 60)) | none => ([], false)) := by
  intro d
  induction d with
  | zero =>
    intro i acc hi hd ha
    refine Ev.step (f := fun k => some (acc, decide ((acc.length : Int) ≤ 60))) (fun k => ?_) ?_
    · simp only [impl_signs.l0, bytesOf_length]; rw [if_neg (by omega)]
    · have : (chrs s).drop i = [] := by rw [List.drop_eq_nil_iff, chrs_length]; omega
      rw [this]; simp only [bitsL, List.append_nil]
      have e : decide ((acc.length : Int) ≤ 60) = decide (acc.length ≤ 60) := by apply decide_eq_decide.2; omega
      rw [e]; exact Ev.now _
  | succ d ih =>
    intro i acc hi hd ha
    have hlt : i < s.size := by omega
    have hl : i < (chrs s).length := by rw [chrs_length]; exact hlt
    have hdrop : (chrs s).drop i = (chrs s)[i] :: (chrs s).drop (i + 1) := List.drop_eq_getElem_cons hl
    have hw : wrap64 ((i : Int) + 1) = ((i + 1 : Nat) : Int) := by rw [w64 (by omega) (by omega)]; omega
    have hb := bt_chr s hlt
    rw [hdrop]
    by_cases c0 : (chrs s)[i] = 48
    · have e : bt s (i : Int) = 48 := by rw [hb, c0]; rfl
      refine Ev.step (f := fun k => impl_signs.l0 k (acc ++ [false]) (bytesOf s) ((bytesOf s).length : Int) ((i + 1 : Nat) : Int)) (fun k => ?_) ?_
      · simp only [impl_signs.l0, bytesOf_length, rd_bytesOf]; rw [if_pos (by omega), if_pos (by omega), if_pos (by omega), if_pos e, if_pos (by omega), hw, e]; rfl
      · have := ih (i + 1) (acc ++ [false]) (by omega) (by omega) (by simp; omega)
        simp only [bitsL, if_pos c0]
        cases h : bitsL ((chrs s).drop (i + 1)) with
        | none => rw [h] at this; exact this
        | some l => rw [h] at this; simpa using this
    · by_cases c1 : (chrs s)[i] = 49
      · have e : bt s (i : Int) = 49 := by rw [hb, c1]; rfl
        refine Ev.step (f := fun k => impl_signs.l0 k (acc ++ [true]) (bytesOf s) ((bytesOf s).length : Int) ((i + 1 : Nat) : Int)) (fun k => ?_) ?_
        · simp only [impl_signs.l0, bytesOf_length, rd_bytesOf]; rw [if_pos (by omega), if_pos (by omega), if_pos (by omega), if_neg (by omega), if_pos e, if_pos (by omega), hw]
        · have := ih (i + 1) (acc ++ [true]) (by omega) (by omega) (by simp; omega)
          simp only [bitsL, if_neg c0, if_pos c1]
          cases h : bitsL ((chrs s).drop (i + 1)) with
          | none => rw [h] at this; exact this
          | some l => rw [h] at this; simpa using this
      · refine Ev.step (f := fun k => some (([] : List Bool), false)) (fun k => ?_) ?_
        · have e0 : ¬ bt s (i : Int) = 48 := by rw [hb]; intro h; exact c0 ((u8_eq (n := 48) (by omega)).1 h)
          have e1 : ¬ bt s (i : Int) = 49 := by rw [hb]; intro h; exact c1 ((u8_eq (n := 49) (by omega)).1 h)
          simp only [impl_signs.l0, bytesOf_length, rd_bytesOf]; rw [if_pos (by omega), if_pos (by omega), if_pos (by omega), if_neg e0, if_neg e1]
        · simp only [bitsL, if_neg c0, if_neg c1]; exact Ev.now _

/-- What impl.signs answers. -/
def sgns (s : List UInt8) : List Bool × Bool := match bitsL s with | some l => (l, decide (l.length ≤ 60)) | none => ([], false)
theorem isigns_f (s : ByteArray) (hs : s.size ≤ 70368744177664) : Ev (fun k => impl_signs.f k s) (sgns (chrs s)) := by
  have := isigns_ev s hs s.size 0 [] (by omega) (by omega) (by simp)
  unfold sgns
  refine Ev.congr (fun k => ?_) (by simpa using this)
  unfold impl_signs.f bytesConv.f; rw [if_pos hs]; simp only [Option.bind_some, bytesOf_length]

/-- What impl.setOf answers, out of its parts. -/
def setFin (o e : Bool) (X Y : List Bool × Bool) : List Bool × List Bool × Bool := (X.1, Y.1, o && e && X.2 && Y.2 && decide (0 < Y.1.length))
theorem setOf_ev (s A R B : ByteArray) (o e : Bool) (h1 : strings_Cut.f s ⟨#[40]⟩ = some (A, R, o)) (h2 : strings_CutSuffix.f R ⟨#[41]⟩ = some (B, e)) (hA : A.size ≤ 70368744177664) (hB : B.size ≤ 70368744177664) :
    Ev (fun k => impl_setOf.f k s) (setFin o e (sgns (chrs A)) (sgns (chrs B))) := by
  refine Ev.congr (f := fun k => (impl_signs.f k A).bind fun X => (impl_signs.f k B).bind fun Y => some (setFin o e X Y)) (fun k => ?_) (Ev.bind (isigns_f A hA) (Ev.bind (isigns_f B hB) (Ev.now _)))
  unfold impl_setOf.f
  rw [h1]
  simp only [Option.bind_some]
  rw [h2]
  simp only [Option.bind_some]
  congr 1; funext X; congr 1; funext Y
  unfold setFin
  have ed : decide ((Y.1.length : Int) > 0) = decide (0 < Y.1.length) := by apply decide_eq_decide.2; omega
  rw [ed]
  cases o <;> cases e <;> rcases X with ⟨x, _ | _⟩ <;> rcases Y with ⟨y, _ | _⟩ <;> simp

theorem setOf_f (s : ByteArray) (hs : s.size ≤ 70368744177664) : ∃ x y, Ev (fun k => impl_setOf.f k s) (x, y, (parse (chrs s)).isSome) ∧ ∀ a b, parse (chrs s) = some (a, b) → x = a ∧ y = b := by
  have hp := (chrs s).findIdx_le_length (p := (· == 40))
  rw [chrs_length] at hp
  have h1 := cut_f s 40 hs
  -- out of the parts
  have fin : ∀ A R B o e, strings_Cut.f s ⟨#[40]⟩ = some (A, R, o) → strings_CutSuffix.f R ⟨#[41]⟩ = some (B, e) → A.size ≤ s.size → B.size ≤ s.size → (setFin o e (sgns (chrs A)) (sgns (chrs B))).2.2 = (parse (chrs s)).isSome → (∀ a b, parse (chrs s) = some (a, b) → (sgns (chrs A)).1 = a ∧ (sgns (chrs B)).1 = b) →
      ∃ x y, Ev (fun k => impl_setOf.f k s) (x, y, (parse (chrs s)).isSome) ∧ ∀ a b, parse (chrs s) = some (a, b) → x = a ∧ y = b := fun A R B o e g1 g2 g3 g4 g5 g6 => by
    have := setOf_ev s A R B o e g1 g2 (by omega) (by omega)
    refine ⟨(sgns (chrs A)).1, (sgns (chrs B)).1, ?_, g6⟩
    rw [← g5]; exact this
  by_cases h : (chrs s).findIdx (· == 40) < s.size
  · rw [if_pos h] at h1
    have hsz : (s.extract ((chrs s).findIdx (· == 40) + 1) s.size).size = s.size - ((chrs s).findIdx (· == 40) + 1) := by simp
    have h2 := suffix_f (s.extract ((chrs s).findIdx (· == 40) + 1) s.size) 41 (by omega)
    have he : (chrs (s.extract ((chrs s).findIdx (· == 40) + 1) s.size))[(s.extract ((chrs s).findIdx (· == 40) + 1) s.size).size - 1]? = if (chrs s).findIdx (· == 40) + 1 < s.size then (chrs s)[s.size - 1]? else none := by
      rw [chrs_extract, List.take_of_length_le (by rw [chrs_length]; omega), hsz, List.getElem?_drop]
      split
      · congr 1; omega
      · exact List.getElem?_eq_none (by rw [chrs_length]; omega)
    rw [he] at h2
    have hP : parse (chrs s) = if (chrs s).findIdx (· == 40) + 2 < s.size ∧ (chrs s)[s.size - 1]? = some 41 then
        match bitsL ((chrs s).take ((chrs s).findIdx (· == 40))), bitsL (((chrs s).take (s.size - 1)).drop ((chrs s).findIdx (· == 40) + 1)) with
        | some a, some b => if a.length ≤ 60 ∧ b.length ≤ 60 then some (a, b) else none
        | _, _ => none else none := by unfold parse; rw [chrs_length] <;> rfl
    have hc1 : chrs (s.extract 0 ((chrs s).findIdx (· == 40))) = (chrs s).take ((chrs s).findIdx (· == 40)) := by rw [chrs_extract, List.drop_zero]
    have hA : (s.extract 0 ((chrs s).findIdx (· == 40))).size ≤ s.size := by simp; omega
    generalize hq : (chrs s).findIdx (· == 40) = p at *
    by_cases h3 : (if p + 1 < s.size then (chrs s)[s.size - 1]? else none) = some 41
    · rw [if_pos h3] at h2
      have h4 : p + 1 < s.size := by
        refine Classical.byContradiction fun hn => ?_
        rw [if_neg hn] at h3; cases h3
      rw [if_pos h4] at h3
      have hc2 : chrs ((s.extract (p + 1) s.size).extract 0 ((s.extract (p + 1) s.size).size - 1)) = ((chrs s).take (s.size - 1)).drop (p + 1) := by
        rw [chrs_extract, chrs_extract, List.drop_zero, show (chrs s).take s.size = chrs s from List.take_of_length_le (by rw [chrs_length]; omega), hsz, List.drop_take]
        congr 1; omega
      have hl2 : (((chrs s).take (s.size - 1)).drop (p + 1)).length = s.size - 1 - (p + 1) := by rw [List.length_drop, List.length_take, chrs_length]; omega
      have hP2 : parse (chrs s) = match bitsL ((chrs s).take p), bitsL (((chrs s).take (s.size - 1)).drop (p + 1)) with
          | some a, some b => if p + 2 < s.size ∧ (a.length ≤ 60 ∧ b.length ≤ 60) then some (a, b) else none
          | _, _ => none := by
        rw [hP]
        by_cases h5 : p + 2 < s.size
        · rw [if_pos ⟨h5, h3⟩]
          split <;> simp_all
        · rw [if_neg (by rintro ⟨x, _⟩; exact h5 x)]
          split
          · rw [if_neg (by rintro ⟨x, _⟩; exact h5 x)]
          · rfl
      refine fin _ _ _ _ _ h1 h2 hA (by simp; omega) ?_ ?_
      · rw [hc1, hc2, hP2]
        unfold setFin sgns
        cases b1 : bitsL ((chrs s).take p) with
        | none => simp
        | some a =>
          cases b2 : bitsL (((chrs s).take (s.size - 1)).drop (p + 1)) with
          | none => simp
          | some b =>
            have hbl := bitsL_length b2
            rw [hl2] at hbl
            have hb0 : decide (0 < b.length) = decide (p + 2 < s.size) := by apply decide_eq_decide.2; omega
            simp only [hb0]
            by_cases la : a.length ≤ 60 <;> by_cases lb : b.length ≤ 60 <;> by_cases h5 : p + 2 < s.size <;> simp [la, lb, h5]
      · rw [hc1, hc2, hP2]
        unfold sgns
        intro a' b' hab
        cases b1 : bitsL ((chrs s).take p) with
        | none => rw [b1] at hab; cases hab
        | some a =>
          cases b2 : bitsL (((chrs s).take (s.size - 1)).drop (p + 1)) with
          | none => rw [b1, b2] at hab; cases hab
          | some b =>
            rw [b1, b2] at hab
            simp only at hab
            split at hab
            · simp only [Option.some.injEq, Prod.mk.injEq] at hab; exact hab
            · cases hab
    · rw [if_neg h3] at h2
      have hPn : parse (chrs s) = none := by
        rw [hP, if_neg]
        rintro ⟨x, y⟩
        exact h3 (by rw [if_pos (by omega)]; exact y)
      refine fin _ _ _ _ _ h1 h2 hA (by simp) ?_ ?_
      · rw [hPn]; simp [setFin]
      · intro a b hab; rw [hPn] at hab; cases hab
  · rw [if_neg h] at h1
    have hPn : parse (chrs s) = none := by
      unfold parse; rw [chrs_length, if_neg]; rintro ⟨x, _⟩; omega
    have h2 := suffix_f (⟨#[]⟩ : ByteArray) 41 (by decide)
    rw [if_neg (by rw [byteArray_empty_chrs]; simp)] at h2
    refine fin _ _ _ _ _ h1 h2 (Nat.le_refl _) (by show 0 ≤ _; omega) ?_ ?_
    · rw [hPn]; simp [setFin]
    · intro a b hab; rw [hPn] at hab; cases hab

end Go.Proofs.Ytgheopbdmijlkaa.P

-- impl.set.text writes the text of a set.
namespace Go.Proofs.Ytgheopbdmijlkaa.P
open Go.RowKit Go.Proofs.YtgheopbdmijlkaaW.PrintWords Go.Proofs.YtgheopbdmijlkaaW.PrintLast Go.Proofs.YtgheopbdmijlkaaW.PrintMore
set_option linter.unusedVariables false
set_option linter.unusedSimpArgs false

theorem told_f (l : List Bool) (h : l.length ≤ 70368744177664) : impl_told.f l = some ⟨(l.map sgn).toArray⟩ := by unfold impl_told.f; rw [if_pos h]
theorem text_f (t r : List Bool) (hl : t.length + r.length ≤ 70368744177664) : Ev (fun k => impl_set_text.f k t r) (txt (t, r)) := by
  have hj : ∀ b : Bool, (b = true ↔ ¬ (t.length ≤ 60 ∧ r.length ≤ 60)) → Ev (fun k => impl_set_text.j0 k b t r) (txt (t, r)) := by
    intro b hb
    cases b with
    | true =>
      refine Ev.step (f := fun k => some ((⟨#[]⟩ : ByteArray), false)) (fun k => ?_) ?_
      · simp only [impl_set_text.j0]; rw [if_pos trivial]
      · unfold txt; rw [if_neg (hb.1 rfl)]; exact Ev.now _
    | false =>
      have hb2 : t.length ≤ 60 ∧ r.length ≤ 60 := Classical.byContradiction fun h => absurd (hb.2 h) (by decide)
      have e1 : (⟨(t.map sgn).toArray⟩ : ByteArray).size = t.length := by show (t.map sgn).toArray.size = _; simp
      have e2 : (⟨(r.map sgn).toArray⟩ : ByteArray).size = r.length := by show (r.map sgn).toArray.size = _; simp
      refine Ev.step (f := fun k => some (textOf t r, true)) (fun k => ?_) ?_
      · simp only [impl_set_text.j0]
        rw [if_neg (by decide), told_f t (by omega)]
        simp only [Option.bind_some]
        rw [if_pos (by omega), told_f r (by omega)]
        simp only [Option.bind_some]
        rw [if_pos (by omega), if_pos (by omega)]
        congr 2
      · rw [txt_ok hb2.1 hb2.2]; exact Ev.now _
  unfold impl_set_text.f
  by_cases h : t.length ≤ 60
  · have h1 := hj (decide ((r.length : Int) > 60)) (by rw [decide_eq_true_iff]; omega)
    refine Ev.congr (fun k => ?_) h1
    rw [if_neg (by omega)]
  · have h1 := hj true (by simp; intro h2; omega)
    refine Ev.congr (fun k => ?_) h1
    rw [if_pos (by omega)]

end Go.Proofs.Ytgheopbdmijlkaa.P

-- impl.turns and tidy come to the tidy form.
namespace Go.Proofs.Ytgheopbdmijlkaa.P
open Go.RowKit Go.Proofs.YtgheopbdmijlkaaW.PrintWords Go.Proofs.YtgheopbdmijlkaaW.PrintLast Go.Proofs.YtgheopbdmijlkaaW.PrintMore
set_option linter.unusedVariables false
set_option linter.unusedSimpArgs false
theorem turns_l0 (r : List Bool) (d : Nat) (hd : 0 < d) (hdl : d ≤ r.length) (hl : r.length ≤ 70368744177664) : ∀ (m i : Nat), i ≤ r.length → r.length - i = m →
    (∀ j, j < i → r.getD j false = r.getD (j % d) false) → ∃ b, Ev (fun k => impl_turns.l0 k r d r.length i) b ∧ (b = true ↔ IsPer r d) := by
  intro m
  induction m with
  | zero =>
    intro i h1 h2 h3
    have e : i = r.length := by omega
    refine ⟨((r.length : Int) % (d : Int)) == 0, Ev.step (f := fun k => some (((r.length : Int) % (d : Int)) == 0)) (fun k => ?_) (Ev.now _), ?_⟩
    · simp only [impl_turns.l0]; rw [if_neg (by omega), if_neg (by omega)]
    · have hm : (r.length : Int) % (d : Int) = ((r.length % d : Nat) : Int) := rfl
      rw [beq_iff_eq, hm]
      constructor
      · intro h; exact IsPer.of_mod (by omega) hd (fun j hj => h3 j (by omega))
      · intro h; have := h.1; omega
  | succ m ih =>
    intro i h1 h2 h3
    have hmod : Int.tmod (i : Int) (d : Int) = ((i % d : Nat) : Int) := by rw [Int.tmod_eq_emod_of_nonneg (by omega)]; rfl
    have hml := Nat.mod_lt i hd
    have hw : wrap64 ((i : Int) + 1) = ((i + 1 : Nat) : Int) := by rw [w64 (by omega) (by omega)]; omega
    by_cases he : r.getD i false = r.getD (i % d) false
    · obtain ⟨b, hb, hbi⟩ := ih (i + 1) (by omega) (by omega) (fun j hj => by
        rcases Nat.lt_or_ge j i with h | h
        · exact h3 j h
        · have : j = i := by omega
          subst this; exact he)
      refine ⟨b, Ev.step (fun k => ?_) hb, hbi⟩
      simp only [impl_turns.l0]
      rw [if_pos (by omega), if_pos (by omega), if_pos (by omega), if_neg (by omega), hmod, if_pos (by omega), if_pos (by omega), rdOf_nat, rdOf_nat, if_neg (by rw [he]; simp), hw]
    · refine ⟨false, Ev.step (f := fun k => some false) (fun k => ?_) (Ev.now _), ?_⟩
      · simp only [impl_turns.l0]
        rw [if_pos (by omega), if_pos (by omega), if_pos (by omega), if_neg (by omega), hmod, if_pos (by omega), if_pos (by omega), rdOf_nat, rdOf_nat, if_pos (by rw [bne_iff_ne]; exact he)]
      · constructor
        · intro h; exact absurd h (by decide)
        · intro h; exact absurd (h.mod hd i (by omega)) he
theorem turns_f (r : List Bool) (d : Nat) (hd : 0 < d) (hdl : d ≤ r.length) (hl : r.length ≤ 70368744177664) : ∃ b, Ev (fun k => impl_turns.f k r d) b ∧ (b = true ↔ IsPer r d) := by
  obtain ⟨b, h, hb⟩ := turns_l0 r d hd hdl hl _ 0 (by omega) rfl (fun j hj => by omega)
  exact ⟨b, by simpa [impl_turns.f] using h, hb⟩
theorem clone_f (l : List Bool) (h : l.length ≤ 70368744177664) : slices_Clone_bool_bool.f l = some l := by unfold slices_Clone_bool_bool.f; rw [if_pos h]

theorem tidy_l1 : ∀ (n : Nat) (t r : List Bool), t.length = n → Prim r → t.length + r.length ≤ 70368744177664 → ∃ t' r', Ev (fun k => impl_set_tidy.l1 k r.length t r) (t', r') ∧ Tidy t r t' r' := by
  intro n
  induction n with
  | zero =>
    intro t r hn hp hl
    have ht : t = [] := List.eq_nil_of_length_eq_zero hn
    subst ht
    refine ⟨[], r, Ev.step (f := fun k => some (([] : List Bool), r)) (fun k => ?_) (Ev.now _), ⟨hp, .inl rfl⟩, fun _ => rfl, Nat.le_refl _, Nat.le_refl _⟩
    simp only [impl_set_tidy.l1]; rw [if_neg (by simp)]
  | succ n ih =>
    intro t r hn hp hl
    have hr := hp.1
    have hpos := List.length_pos_iff.2 hr
    have ht : t ≠ [] := by intro e; rw [e] at hn; simp at hn
    have w1 : wrap64 ((t.length : Int) - 1) = ((t.length - 1 : Nat) : Int) := by rw [w64 (by omega) (by omega)]; omega
    have w2 : wrap64 ((r.length : Int) - 1) = ((r.length - 1 : Nat) : Int) := by rw [w64 (by omega) (by omega)]; omega
    by_cases he : t.getD (t.length - 1) false = r.getD (r.length - 1) false
    · obtain ⟨t', r', hev, htd⟩ := ih (t.take (t.length - 1)) (rotR r) (by rw [List.length_take]; omega) (prim_rot hp) (by rw [rotR_length hr, List.length_take]; omega)
      rw [rotR_length hr] at hev
      refine ⟨t', r', Ev.step (fun k => ?_) hev, htd.canon, fun x => by rw [htd.has, rot_has ht hr he], by have := htd.tl; rw [List.length_take] at this; omega, by have := htd.rl; rw [rotR_length hr] at this; omega⟩
      simp only [impl_set_tidy.l1]
      rw [if_pos (by omega), w1, w2, if_pos (by omega), if_pos (by omega), if_pos (by omega), if_pos (by omega), rdOf_nat, rdOf_nat, if_pos (by rw [he]; exact beq_self_eq_true _), if_pos (by omega)]
      simp only [Option.bind_some]
      rw [if_pos (by omega)]
      simp only [Int.toNat_natCast]
      rw [if_pos (by simp; omega)]
      rfl
    · refine ⟨t, r, Ev.step (f := fun k => some (t, r)) (fun k => ?_) (Ev.now _), ⟨hp, .inr he⟩, fun _ => rfl, Nat.le_refl _, Nat.le_refl _⟩
      simp only [impl_set_tidy.l1]
      rw [if_pos (by omega), w1, w2, if_pos (by omega), if_pos (by omega), if_pos (by omega), if_pos (by omega), rdOf_nat, rdOf_nat, if_neg (by rw [beq_iff_eq]; exact he)]

theorem tidy_l0 (t r : List Bool) (hr : r ≠ []) (hl : t.length + r.length ≤ 70368744177664) : ∀ (m d : Nat), 0 < d → d ≤ r.length → r.length - d = m → (∀ d', 0 < d' → d' < d → ¬ IsPer r d') →
    ∃ t' r', Ev (fun k => impl_set_tidy.l0 k d t r) (t', r') ∧ Tidy t r t' r' := by
  have hpos := List.length_pos_iff.2 hr
  have hn : IsPer r r.length := ⟨Nat.mod_self _, fun i a b => by omega⟩
  intro m
  induction m with
  | zero =>
    intro d h0 h1 h2 h3
    have e : d = r.length := by omega
    obtain ⟨b, hb, hbi⟩ := turns_f r d h0 h1 (by omega)
    have hbt : b = true := hbi.2 (by rw [e]; exact hn)
    have hp : IsPer r d := hbi.1 hbt
    subst hbt
    have hlt : (r.take d).length = d := by rw [List.length_take]; omega
    obtain ⟨t', r', hev, htd⟩ := tidy_l1 _ t (r.take d) rfl (prim_take h0 h1 hp h3) (by omega)
    rw [hlt] at hev
    refine ⟨t', r', Ev.step (f := fun k => (impl_turns.f k r d).bind fun t161 => (if t161 = true then impl_set_tidy.l1 k d t (r.take d) else (impl_set_tidy.l0 k (wrap64 (d + 1)) t r))) (fun k => ?_) (Ev.bind hb (by simpa using hev)), htd.canon, fun x => by rw [htd.has, take_has hp h0 h1], htd.tl, by have := htd.rl; omega⟩
    simp only [impl_set_tidy.l0]
    congr 1; funext x
    rw [clone_f _ (by omega)]
    simp only [Option.bind_some, Int.toNat_natCast]
    cases x with
    | true => rw [if_pos rfl, if_pos rfl, if_pos (by omega), if_pos (by omega), clone_f _ (by rw [hlt]; omega)]; rfl
    | false => rw [if_neg (by decide), if_neg (by decide)]
  | succ m ih =>
    intro d h0 h1 h2 h3
    obtain ⟨b, hb, hbi⟩ := turns_f r d h0 h1 (by omega)
    have hw : wrap64 ((d : Int) + 1) = ((d + 1 : Nat) : Int) := by rw [w64 (by omega) (by omega)]; omega
    have hlt : (r.take d).length = d := by rw [List.length_take]; omega
    have st : ∀ k, impl_set_tidy.l0 (k + 1) d t r = (impl_turns.f k r d).bind fun t161 => (if t161 = true then impl_set_tidy.l1 k d t (r.take d) else (impl_set_tidy.l0 k ((d + 1 : Nat) : Int) t r)) := fun k => by
      simp only [impl_set_tidy.l0]
      congr 1; funext x
      rw [clone_f _ (by omega)]
      simp only [Option.bind_some, Int.toNat_natCast]
      cases x with
      | true => rw [if_pos rfl, if_pos rfl, if_pos (by omega), if_pos (by omega), clone_f _ (by rw [hlt]; omega)]; rfl
      | false => rw [if_neg (by decide), if_neg (by decide), hw]
    by_cases hp : IsPer r d
    · have hbt := hbi.2 hp
      subst hbt
      obtain ⟨t', r', hev, htd⟩ := tidy_l1 _ t (r.take d) rfl (prim_take h0 h1 hp h3) (by omega)
      rw [hlt] at hev
      exact ⟨t', r', Ev.step st (Ev.bind hb (by simpa using hev)), htd.canon, fun x => by rw [htd.has, take_has hp h0 h1], htd.tl, by have := htd.rl; omega⟩
    · have hbt : b = false := by cases b; rfl; exact absurd (hbi.1 rfl) hp
      subst hbt
      obtain ⟨t', r', hev, htd⟩ := ih (d + 1) (by omega) (by omega) (by omega) (fun d' a b => by
            rcases Nat.lt_or_ge d' d with h | h
            · exact h3 d' a h
            · have : d' = d := by omega
              subst this; exact hp)
      exact ⟨t', r', Ev.step st (Ev.bind hb (by simpa using hev)), htd⟩
theorem tidy_f (t r : List Bool) (hr : r ≠ []) (hl : t.length + r.length ≤ 70368744177664) : ∃ t' r', Ev (fun k => impl_set_tidy.f k t r) (t', r') ∧ Tidy t r t' r' := by
  have hpos := List.length_pos_iff.2 hr
  obtain ⟨t', r', h, htd⟩ := tidy_l0 t r hr hl _ 1 (by omega) (by omega) rfl (fun d a b => by omega)
  exact ⟨t', r', by simpa [impl_set_tidy.f] using h, htd⟩

theorem tidy_cn (t r : List Bool) (hr : r ≠ []) (hl : t.length + r.length ≤ 70368744177664) : Ev (fun k => impl_set_tidy.f k t r) (cn (hasB t r)) := by
  obtain ⟨t', r', h, ht⟩ := tidy_f t r hr hl
  rw [ht.cn]; exact h

end Go.Proofs.Ytgheopbdmijlkaa.P

-- impl.made over a question that is answered: the tidy text of the set.
namespace Go.Proofs.Ytgheopbdmijlkaa.P
open Go.RowKit Go.Proofs.YtgheopbdmijlkaaW.PrintWords Go.Proofs.YtgheopbdmijlkaaW.PrintLast Go.Proofs.YtgheopbdmijlkaaW.PrintMore
set_option linter.unusedVariables false
set_option linter.unusedSimpArgs false

theorem made_calls (q : Nat → Bool) (m p : Nat) (hp : 0 < p) (hper : Per q m p) (hl : m + p ≤ 1000000) (g : Nat) (lb : Array Value) (w : World)
    (eg : ∀ args w, (callFunc g args).run Try.prog w = .ok (.enter g args) w)
    (hc : ∀ (W : World) (i : Nat), Below w.heap.size w W → i < m + p → Calls Try.prog g (#[.int .i64 i] ++ lb) W fun e w' => e = .returned (.bool (q i)) ∧ Below W.heap.size W w') :
    Calls Try.prog 48 #[.int .i64 m, .int .i64 p, .func (.func g) #[] lb] w fun e w' => e = .returned (.tuple #[.string (txt (cn q)).1, .bool (txt (cn q)).2]) ∧ Below w.heap.size w w' := by
  have hs := cn_spec hp hper
  have h1 := tidy_cn (mkT q m) (mkR q m p) (mkR_ne q hp) (by rw [mkT_length, mkR_length]; omega)
  rw [mk_has hp hper] at h1
  have h2 := text_f (cn q).1 (cn q).2 (by omega)
  obtain ⟨k, hk⟩ := (Ev.bind (f := fun k y => impl_set_text.f k y.1 y.2) h1 h2).rounds
  have := impl_made.calls k (mkT q m) (mkR q m p) (txt (cn q)).1 (txt (cn q)).2 g lb w eg (fun W i hW hi => ?_) (by rw [mkT_length, mkR_length]; omega) hk
  · rw [mkT_length, mkR_length] at this; exact this
  · rw [mkT_length, mkR_length] at hi
    rw [← mkT_add, mkT_get q hi]; exact hc W i hW hi

end Go.Proofs.Ytgheopbdmijlkaa.P

-- impl.MachSet: the set of the numbers that a machine takes.
namespace Go.Proofs.Ytgheopbdmijlkaa.P
open Go.RowKit Go.Proofs.YtgheopbdmijlkaaW.PrintWords Go.Proofs.YtgheopbdmijlkaaW.PrintLast Go.Proofs.YtgheopbdmijlkaaW.PrintMore
set_option linter.unusedVariables false
set_option linter.unusedSimpArgs false

/-- What impl.MachSet answers. -/
noncomputable def msr (l : List Int) (st en : Int) : ByteArray × Bool := if mok l st en = true then txt (cn (mq l st en)) else (⟨#[]⟩, false)
noncomputable def impl_MachSet.f (l : List Int) (st en : Int) : Option (ByteArray × Bool) := if l.length ≤ 1000000000000 then some (msr l st en) else none
theorem machSet_f {l : List Int} (h : l.length ≤ 1000000000000) (st en : Int) : impl_MachSet.f l st en = some (msr l st en) := by unfold impl_MachSet.f; rw [if_pos h]
theorem mall_pow {n : Nat} (h : 1 ≤ n ∧ n ≤ 5) : mall n = ((2 ^ n : Nat) : Int) - 1 := by
  rcases (show n = 1 ∨ n = 2 ∨ n = 3 ∨ n = 4 ∨ n = 5 by omega) with h | h | h | h | h <;> rw [h] <;> decide
/-- What a machine that is one has. -/
theorem mok_of {l : List Int} {st en : Int} (h : mok l st en = true) : (1 ≤ l.length ∧ l.length ≤ 5) ∧ Stt l l.length ∧ (∃ v : Nat, st = (v : Int) ∧ v < 2 ^ l.length) ∧ ∃ v : Nat, en = (v : Int) ∧ v < 2 ^ l.length := by
  unfold mok at h
  rw [Bool.and_eq_true, Bool.and_eq_true, Bool.and_eq_true, decide_eq_true_iff, decide_eq_true_iff, decide_eq_true_iff] at h
  obtain ⟨h1, h2, h3, h4⟩ := h
  have hm := mall_pow h1
  refine ⟨h1, fun i hi => ?_, ?_, ?_⟩
  · have h5 : 0 ≤ rd l (i : Int) ∧ rd l (i : Int) ≤ mall l.length := by
      by_cases h5 : 0 ≤ rd l (i : Int) ∧ rd l (i : Int) ≤ mall l.length
      · exact h5
      · have : anyI l (fun x => !decide (0 ≤ x ∧ x ≤ mall l.length)) = true := by
          unfold anyI
          exact dec_true ⟨i, hi, by show (!decide (0 ≤ rd l (i : Int) ∧ rd l (i : Int) ≤ mall l.length)) = true; rw [decide_eq_false h5]; rfl⟩
        rw [this] at h2; cases h2
    obtain ⟨v, hv⟩ := Int.eq_ofNat_of_zero_le h5.1
    exact ⟨v, hv, by omega⟩
  · obtain ⟨v, hv⟩ := Int.eq_ofNat_of_zero_le h3.1
    exact ⟨v, hv, by omega⟩
  · obtain ⟨v, hv⟩ := Int.eq_ofNat_of_zero_le h4.1
    exact ⟨v, hv, by omega⟩
theorem mok_shape {l : List Int} {st en : Int} (h : mok l st en = true) : ∃ T F, Shape l st T F ∧ T ≤ 32 := by
  obtain ⟨h1, h2, h3, _⟩ := mok_of h
  obtain ⟨T, F, h4, h5⟩ := shape_of (by omega) h2 h3
  have : 2 ^ l.length ≤ 2 ^ 5 := Nat.pow_le_pow_right (by omega) h1.2
  exact ⟨T, F, h4, by omega⟩

set_option maxHeartbeats 8000000 in
set_option maxRecDepth 100000 in
theorem machSet1_calls (l : List Int) (st en : Int) (T n : Nat) (hn : n < T) (A : Option Addr) (c gl gm : Nat) (W : World)
    (hl : W.cell? ⟨gl, 0, none⟩ = some (.slice A T c)) (hC : Kd.C (Kd.int .i64) W A (orbs l st T).length (orbs l st T)) (hm : W.cell? ⟨gm, 2, none⟩ = some (.int .i64 en)) :
    Calls Try.prog 63 #[.int .i64 n, .pointer (some ⟨gl, 0, none⟩), .pointer (some ⟨gm, 0, none⟩)] W fun e w' => e = .returned (.bool (mq l st en n)) ∧ Below W.heap.size W w' := by
  have hu := Try.underlying31
  have p1 : (0 : Int) ≤ (n : Int) := by omega
  have q0 : (n : Int) < ((orbs l st T).length : Int) := by rw [orbs_length]; omega
  have q1 : (n : Int) < (T : Int) := by omega
  obtain ⟨ad1, e1, hx1⟩ := Kd.at_int hC (n : Int) p1 q0
  rw [Int.toNat_natCast, orbs_rd l st hn] at hx1
  unfold mq
  generalize orb l st n = x at *
  clear hC q0
  cases e1
  go_enter Try.func63, Try.ntmps63
  go_wp2
  go_quiet (fail)
  all_goals go_wp2
  all_goals go_ret
  all_goals exact ⟨by first | rfl | simp, pw_below_drewN (Below.refl _ _) _⟩

set_option maxHeartbeats 16000000 in
set_option maxRecDepth 100000 in
theorem impl_MachSet.calls (A : Option Addr) (c : Nat) (l : List Int) (st en : Int) (r1 : ByteArray) (r2 : Bool) (w : World) (hC : Kd.C (Kd.int .i64) w A l.length l) (hc : l.length ≤ c) (h : impl_MachSet.f l st en = some (r1, r2)) :
    Calls Try.prog 39 #[.agg #[.slice A l.length c, .int .i64 st, .int .i64 en]] w fun e w' => e = .returned (.tuple #[.string r1, .bool r2]) ∧ Below w.heap.size w w' := by
  unfold impl_MachSet.f at h
  split at h
  rotate_left
  · cases h
  rename_i hbig
  simp only [Option.some.injEq] at h
  have hR : r1 = (msr l st en).1 ∧ r2 = (msr l st en).2 := by rw [h]; exact ⟨rfl, rfl⟩
  obtain ⟨rfl, rfl⟩ := hR
  clear h
  have hu := Try.underlying31
  have hin := machIn_f hbig st en
  have HC := Aside0.mk hC
  have HMI := fun (w' : World) (hC' : Kd.C (Kd.int .i64) w' A l.length l) => impl_MachIn.calls A c l st en (mok l st en) w' hC' hc hin
  cases hm : mok l st en with
  | false =>
    have e : msr l st en = (⟨#[]⟩, false) := by unfold msr; rw [hm]; rfl
    rw [e]
    rw [hm] at HMI
    have HMA := Aside0.mk HMI
    clear HMI hm e hin hC hbig hc
    go_enter Try.func39, Try.ntmps39
    go_wp2_with (go_at_call 59; with_reducible refine (HMA.out _ (Kd.C_below HC.out (below_alloc (Below.refl w.heap.size w) _))).mono ?_; rintro e w1 ⟨rfl, hd⟩; have HB := Aside0.mk (below_step (below_alloc (Below.refl w.heap.size w) _) hd); clear hd)
    go_ret2
    exact ⟨rfl, HB.out⟩
  | true =>
    have e : msr l st en = txt (cn (mq l st en)) := by unfold msr; rw [hm]; rfl
    rw [e]
    rw [hm] at HMI
    obtain ⟨T, F, hsh, hT⟩ := mok_shape hm
    have hlt := hsh.lt
    have hl5 := (mok_of hm).1
    have HMA := Aside0.mk HMI
    have hcN : ∀ i, i < T → ∃ k, slices_Contains_int_int.f k (orbs l st i) (orb l st i) = some false := fun i hi =>
      (cont_no (orbs l st i) (by rw [orbs_length]; omega) (orb l st i) (fun j hj => by rw [orbs_length] at hj; rw [orbs_rd l st hj]; exact hsh.new j i hj hi)).rounds
    have hfind : F < (orbs l st T).length ∧ rd (orbs l st T) (F : Int) = orb l st T ∧ ∀ j : Nat, j < F → rd (orbs l st T) (j : Int) ≠ orb l st T := by
      refine ⟨by rw [orbs_length]; exact hlt, by rw [orbs_rd l st hlt]; exact hsh.same.symm, fun j hj => ?_⟩
      rw [orbs_rd l st (by omega), hsh.same]; exact hsh.new j F hj hlt
    have hcY : ∃ k, slices_Contains_int_int.f k (orbs l st T) (orb l st T) = some true := (cont_yes (orbs l st T) (by rw [orbs_length]; omega) (orb l st T) F hfind.1 hfind.2.1 hfind.2.2).rounds
    have hcI : ∃ k, slices_Index_int_int.f k (orbs l st T) (orb l st T) = some (F : Int) := (index_at (orbs l st T) (by rw [orbs_length]; omega) (orb l st T) F hfind.1 hfind.2.1 hfind.2.2).rounds
    have hnx : ∀ x, ∃ k, impl_Machine_next.f k l st en x = some (nxt l x) := fun x => (next_f l (by omega) st en x).rounds
    have hsub : IntKind.i64.wrap ((T : Int) - (F : Int)) = ((T - F : Nat) : Int) := by rw [IntKind.wrap_i64]; omega
    have eg : ∀ args w, (callFunc 63 args).run Try.prog w = .ok (.enter 63 args) w := enters_of Try.func63 (by kernel_rfl) rfl
    have HM := fun (lb : Array Value) (w : World) => Aside0.mk (made_calls (mq l st en) F (T - F) (by omega) (hsh.per en) (by omega) 63 lb w eg)
    have HCN := Aside0.mk hcN
    have HCY := Aside0.mk hcY
    have HCI := Aside0.mk hcI
    have HNX := Aside0.mk hnx
    have HTT := Aside0.mk hT
    have HLT := Aside0.mk hlt
    have HCC := Aside0.mk hc
    clear HMI hm e hin hC hbig hc hcN hcY hcI hnx hfind hsh hT hlt hl5 eg
    go_enter Try.func39, Try.ntmps39
    go_wp2_with (go_at_call 59; with_reducible refine (HMA.out _ (Kd.C_below HC.out (below_alloc (Below.refl w.heap.size w) _))).mono ?_; rintro e w1 ⟨rfl, hd⟩; have HB1 := Aside0.mk (below_step (below_alloc (Below.refl w.heap.size w) _) hd); have BM := Aside0.mk (blk_below (blk_new w (.cells #[.slice A l.length c, .int .i64 st, .int .i64 en] 31 (0, 0))) hd); have m0 : w1.cell? ⟨w.heap.size, 0, none⟩ = some (.slice A l.length c) := (blk_cell BM.out 0).trans rfl; have m1 : w1.cell? ⟨w.heap.size, 1, none⟩ = some (.int .i64 st) := (blk_cell BM.out 1).trans rfl; have m2 : w1.cell? ⟨w.heap.size, 2, none⟩ = some (.int .i64 en) := (blk_cell BM.out 2).trans rfl; have l1 : w.heap.size < w1.heap.size := blk_lt BM.out; clear hd)
    go_loopg [5] T (fun gg s5 wr => ∃ i : Nat, i ≤ T ∧ T - i ≤ gg ∧ s5 = .int .i64 (orb l st i) ∧ Aside0 (Below w.heap.size w wr) ∧ Aside0 (wr.heap[w.heap.size]? = some (.cells #[.slice A l.length c, .int .i64 st, .int .i64 en] 31 (0, 0))) ∧ ∃ A1 c1, Aside0 (wr.heap[w1.heap.size]? = some (.cells #[.slice A1 i c1] 25 (0, 0))) ∧ Aside0 (Kd.R (Kd.int .i64) 3 wr w.heap.size (fun k => k ≠ w1.heap.size ∧ k ≠ w.heap.size) (.slice A1 i c1) (orbs l st i)) ∧ Aside0 (i ≤ c1))
    case atStart => exact ⟨0, Nat.zero_le _, by omega, rfl, ⟨below_alloc HB1.out _⟩, ⟨blk_alloc BM.out _⟩, none, 0, ⟨blk_new _ _⟩, ⟨Kd.R_nil _ _ _ _ _⟩, ⟨Nat.le_refl _⟩⟩
    case round =>
      obtain ⟨i, hi, hgg, rfl, HB, BMr, A1, c1, BL, HR, HK1⟩ := hrel
      have f0 : wr.cell? ⟨w1.heap.size, 0, none⟩ = some (.slice A1 i c1) := (blk_cell BL.out 0).trans rfl
      have hRr := Kd.R_reads' HR.out
      have hCR0 := hRr.2.2
      rw [orbs_length] at hCR0
      have hCR := Aside0.mk hCR0
      clear hRr hCR0
      rcases Nat.lt_or_ge i T with hlt | hge
      · obtain ⟨k1, hk1⟩ := HCN.out i hlt
        obtain ⟨k2, hk2⟩ := HNX.out (orb l st i)
        have HCont := Aside0.mk (fun (w' : World) (hC' : Kd.C (Kd.int .i64) w' A1 (orbs l st i).length (orbs l st i)) => slices_Contains_int_int.calls k1 A1 c1 (orbs l st i) (orb l st i) false w' hC' (by rw [orbs_length]; exact HK1.out) hk1)
        have HNxt := Aside0.mk (fun (w' : World) (hC' : Kd.C (Kd.int .i64) w' A l.length l) => impl_Machine_next.calls k2 A c l st en (orb l st i) (nxt l (orb l st i)) w' hC' HCC.out hk2)
        have hs1 : orb l st (i + 1) = nxt l (orb l st i) := rfl
        have HS1 := Aside0.mk hs1
        have HXS := Aside0.mk (orbs_succ l st i)
        rw [orbs_length] at HCont
        generalize orb l st i = x at *
        clear hk1 hk2 hs1
        go_wp2_with (first
          | (go_at_call 60; go_loud (refine (HCont.out _ hCR.out).mono ?_; rintro e w2 ⟨rfl, hd⟩; have hb := drawn0_below hd; have HB2 := Aside0.mk (below_step HB.out hb); have BM2 := Aside0.mk (blk_below BMr.out hb); have BL2 := Aside0.mk (blk_below BL.out hb); have HR2 := Aside0.mk (Kd.R_below HR.out hb); have f2 : w2.cell? ⟨w1.heap.size, 0, none⟩ = some (.slice A1 i c1) := (blk_cell BL2.out 0).trans rfl; clear hd hb))
          | ((with_reducible refine gate_builtin (b := .append) (xs := #[.tmp 17, .tmp 19]) rfl ?_); at_builtin; go_loud (refine Kd.R_append (Kd.int .i64) (w0 := w) w.heap.size rfl (.tmp 17) (.tmp 19) 25 3 (.int .i64 0) 8 rfl Try.underlying25 info3 rfl (by decide) (by omega) (.slice A1 i c1) (orbs l st i) x [.int .i64 x] (fun k => k ≠ w1.heap.size ∧ k ≠ w.heap.size) (fun _ => False) rfl rfl ?aP (fun _ hk => hk.elim) ?aF HR2.out HB2.out ?aS ?aL ?_; (case aP => exact rfl); (case aF => exact fun k hk => ⟨by have := blk_lt BL2.out; omega, by have := blk_lt BM2.out; omega⟩); (case aS => exact HB2.out.size); (case aL => have := HTT.out; rw [orbs_length]; omega); intro v1 w3 ho hb hg hat; rw [← HXS.out] at ho; obtain ⟨A2, c2, hv⟩ := Kd.R_slice ho; rw [orbs_length] at hv; subst hv; have BM3 := Aside0.mk (blk_grown BM2.out hg (Kd.R_away HR2.out (fun k hk => hk.2))); have BL3 := Aside0.mk (blk_grown BL2.out hg (Kd.R_away HR2.out (fun k hk => hk.1))); have f3 : w3.cell? ⟨w1.heap.size, 0, none⟩ = some (.slice A1 i c1) := (blk_cell BL3.out 0).trans rfl; have z3 : w3.frozen? ⟨w1.heap.size, 0, none⟩ = false := blk_frozen BL3.out 0; have hne : w.heap.size ≠ w1.heap.size := Nat.ne_of_lt l1; have BM4 := Aside0.mk (blk_far BM3.out (p := ⟨w1.heap.size, 0, none⟩) hne (.slice A2 (i + 1) c2)); have BL4 := Aside0.mk (blk_put BL3.out 0 (.slice A2 (i + 1) c2) rfl); have HR4 := Aside0.mk (Kd.R_far ho (p := ⟨w1.heap.size, 0, none⟩) (fun k hk => hk.1) (.slice A2 (i + 1) c2)); have HB4 := Aside0.mk (below_set (g := w1.heap.size) (j := 0) (v := .slice A2 (i + 1) c2) hb (Nat.le_of_lt l1)); have k4 : i + 1 ≤ c2 := by { have h9 := (Kd.R_reads' ho).2.1; exact h9 }; have K4 := Aside0.mk k4; have n0 : (w3.setCell ⟨w1.heap.size, 0, none⟩ (.slice A2 (i + 1) c2)).cell? ⟨w.heap.size, 0, none⟩ = some (.slice A l.length c) := (blk_cell BM4.out 0).trans rfl; have n1 : (w3.setCell ⟨w1.heap.size, 0, none⟩ (.slice A2 (i + 1) c2)).cell? ⟨w.heap.size, 1, none⟩ = some (.int .i64 st) := (blk_cell BM4.out 1).trans rfl; have n2 : (w3.setCell ⟨w1.heap.size, 0, none⟩ (.slice A2 (i + 1) c2)).cell? ⟨w.heap.size, 2, none⟩ = some (.int .i64 en) := (blk_cell BM4.out 2).trans rfl; clear ho hb hg hat k4 hne))
          | (go_at_call 61; go_loud (refine (HNxt.out _ (Kd.C_below HC.out HB4.out)).mono ?_; rintro e w5 ⟨rfl, hb5⟩; have HB5 := Aside0.mk (below_step HB4.out hb5); have BM5 := Aside0.mk (blk_below BM4.out hb5); have BL5 := Aside0.mk (blk_below BL4.out hb5); have HR5 := Aside0.mk (Kd.R_below HR4.out hb5); clear hb5)))
        go_roundg (T - (i + 1))
        case measure => omega
        case rel => exact ⟨i + 1, by omega, by omega, congrArg (Value.int .i64) HS1.out.symm, HB5, BM5, A2, c2, BL5, HR5, K4⟩
      · have e9 : i = T := by omega
        subst e9
        obtain ⟨k1, hk1⟩ := HCY.out
        obtain ⟨k2, hk2⟩ := HCI.out
        have HCont := Aside0.mk (fun (w' : World) (hC' : Kd.C (Kd.int .i64) w' A1 (orbs l st i).length (orbs l st i)) => slices_Contains_int_int.calls k1 A1 c1 (orbs l st i) (orb l st i) true w' hC' (by rw [orbs_length]; exact HK1.out) hk1)
        have HIdx := Aside0.mk (fun (w' : World) (hC' : Kd.C (Kd.int .i64) w' A1 (orbs l st i).length (orbs l st i)) => slices_Index_int_int.calls k2 A1 c1 (orbs l st i) (orb l st i) (F : Int) w' hC' (by rw [orbs_length]; exact HK1.out) hk2)
        have HLN := Aside0.mk (orbs_length l st i)
        rw [orbs_length] at HCont HIdx
        generalize orb l st i = x at *
        clear hk1 hk2
        go_wp2_with (first
          | (go_at_call 60; go_loud (refine (HCont.out _ hCR.out).mono ?_; rintro e w2 ⟨rfl, hd⟩; have hb := drawn0_below hd; have HB2 := Aside0.mk (below_step HB.out hb); have BM2 := Aside0.mk (blk_below BMr.out hb); have BL2 := Aside0.mk (blk_below BL.out hb); have HC2 := Aside0.mk (Kd.C_below hCR.out hb); have f2 : w2.cell? ⟨w1.heap.size, 0, none⟩ = some (.slice A1 i c1) := (blk_cell BL2.out 0).trans rfl; clear hd hb))
          | (go_at_call 62; go_loud (refine (HIdx.out _ HC2.out).mono ?_; rintro e w3 ⟨rfl, hd⟩; have hb := drawn0_below hd; have HB3 := Aside0.mk (below_step HB2.out hb); have BM3 := Aside0.mk (blk_below BM2.out hb); have BL3 := Aside0.mk (blk_below BL2.out hb); have HC3 := Aside0.mk (Kd.C_below HC2.out hb); have f3 : w3.cell? ⟨w1.heap.size, 0, none⟩ = some (.slice A1 i c1) := (blk_cell BL3.out 0).trans rfl; clear hd hb))
          | (go_at_call 48; go_loud (refine ((HM _ _).out ?hc).mono ?_; (case hc =>
                intro W n hW hn
                refine machSet1_calls l st en i n (by have := HLT.out; omega) A1 c1 w1.heap.size w.heap.size W ((hW.cell (p := ⟨w1.heap.size, 0, none⟩) (blk_lt BL3.out)).trans f3) ?_ ((hW.cell (p := ⟨w.heap.size, 2, none⟩) (blk_lt BM3.out)).trans ((blk_cell BM3.out 2).trans rfl))
                rw [HLN.out]
                exact Kd.C_below HC3.out hW); rintro e w4 ⟨rfl, hb4⟩; have HB4 := Aside0.mk (below_step HB3.out hb4); clear hb4)))
        go_ret2
        exact ⟨rfl, HB4.out⟩
end Go.Proofs.Ytgheopbdmijlkaa.P

namespace Go.Proofs.Ytgheopbdmijlkaa.P
open Go.RowKit Go.Proofs.YtgheopbdmijlkaaW.PrintWords Go.Proofs.YtgheopbdmijlkaaW.PrintLast Go.Proofs.YtgheopbdmijlkaaW.PrintMore
attribute [local go_sem] max2_int min2_int max_two min_two max_three min_three max_four min_four   -- for this text's walks alone
set_option linter.unusedVariables false
set_option linter.unusedSimpArgs false

/-! ### impl_MachFew: function 22 -/
noncomputable def impl_MachFew.f (k:Nat) (l0_0:List Int) (a0_1:Int) (a0_2:Int):Option (Int × Bool):=(impl_MachSet.f l0_0 a0_1 a0_2).bind fun bt494=>(if bt494.2=true then ((impl_RestMany.f k bt494.1).bind fun bt496=>(some (bt496.1,bt496.2))) else (some (0,false)))
theorem impl_MachFew.mono:∀ a0 a1 a2 k,LeO (impl_MachFew.f k a0 a1 a2) (impl_MachFew.f (k+1) a0 a1 a2):=by
 intro a0 a1 a2 k
 unfold impl_MachFew.f
 repeat' first
   | (with_reducible exact impl_RestMany.mono _ _)
   | (with_reducible exact LeO.refl _)
   | (with_reducible exact LeO.none _)
   | (with_reducible refine LeO.ite ?_ ?_)
   | (with_reducible refine LeO.bind ?_ (fun _=>?_))
   | exact impl_RestMany.mono _ _
   | exact LeO.none _
   | refine LeO.ite ?_ ?_
   | refine LeO.bind ?_ (fun _=>?_)
set_option maxHeartbeats 8000000 in
set_option maxRecDepth 100000 in
theorem impl_MachFew.calls (k:Nat) (A0_0:Option Addr) (c0_0:Nat) (l0_0:List Int) (a0_1:Int) (a0_2:Int) (r1:Int) (r2:Bool) (w:World) (hr0_0:Kd.C (Kd.int .i64) w A0_0 l0_0.length l0_0) (hc0_0:l0_0.length≤c0_0) (h:impl_MachFew.f k l0_0 a0_1 a0_2=some (r1,r2)) :
  Calls Try.prog 22 #[.agg #[.slice A0_0 l0_0.length c0_0,.int .i64 a0_1,.int .i64 a0_2]] w fun e w'=>e=.returned (.tuple #[.int .i64 r1,.bool r2])∧Below w.heap.size w w':=by
 have hu31:=Try.underlying31
 have HR0_0:=Aside0.mk hr0_0
 have HC0_0:=Aside0.mk hc0_0
 clear hr0_0 hc0_0
 have HB:=Aside0.mk (Below.refl w.heap.size w)
 have H:((impl_MachSet.f l0_0 a0_1 a0_2).bind fun bt494=>(if bt494.2=true then ((impl_RestMany.f k bt494.1).bind fun bt496=>(some (bt496.1,bt496.2))) else (some (0,false))))=some (r1,r2):=h
 clear h
 replace H:=Option.bind_eq_some_iff.mp H
 obtain ⟨⟨t494,t495⟩,A20,H⟩:=H
 replace H:(if t495=true then ((impl_RestMany.f k t494).bind fun bt496=>(some (bt496.1,bt496.2))) else (some (0,false)))=some (r1,r2):=H
 have A2:=Aside0.mk A20
 clear A20
 by_cases c3:t495=true
 ·subst c3
  have H1:((impl_RestMany.f k t494).bind fun bt496=>(some (bt496.1,bt496.2)))=some (r1,r2):=by rw [if_pos rfl] at H;exact H
  clear H
  have H:=H1
  clear H1
  replace H:=Option.bind_eq_some_iff.mp H
  obtain ⟨⟨t496,t497⟩,A40,H⟩:=H
  replace H:(some (t496,t497))=some (r1,r2):=H
  have A4:=Aside0.mk A40
  clear A40
  simp only [Option.some.injEq,Prod.mk.injEq] at H
  obtain ⟨rfl,rfl⟩:=H
  go_enter Try.func22,Try.ntmps22
  go_wp2_with (first|((with_reducible refine gate_dst (N:=1) rfl ?_);refine box_event ?hg (N:=1) ?hd (cs:=#[.slice A0_0 l0_0.length c0_0,.int .i64 a0_1,.int .i64 a0_2]) (t:=31) ?hr ?_;(case hd=>rfl);(case hg=>rfl);(case hr=>first|(go_simp;done)|(go_simp;rfl));intro gb493 hg w5 hbox hb;have n0_:=Aside0.mk (yP (by repeat (first|(with_reducible first|exact HB.out|apply yA|apply yB|apply yC)|exact HB.out)) hb);have n1_:=Aside0.mk (hbox);have n2_:=Aside0.mk ((by rw [hg];exact (yQ (by repeat (first|(with_reducible first|exact HB.out|apply yA|apply yB|apply yC)|exact HB.out))):w.heap.size≤gb493));have n3_:=Aside0.mk ((by rw [hg];exact (yQ (by repeat (first|(with_reducible first|exact HB.out|apply yA|apply yB|apply yC)|exact HB.out))):w.heap.size≤gb493));clear HB;have HB:=n0_;have BK493:=n1_;have GW493:=n2_;have GE493:=n3_;clear n0_ n1_ n2_ n3_;clear hb hbox hg;have hcz6_0:w5.cell? ⟨gb493,0,none⟩=some (.slice A0_0 l0_0.length c0_0):=(blk_cell BK493.out 0).trans rfl;have hcz6_1:w5.cell? ⟨gb493,1,none⟩=some (.int .i64 a0_1):=(blk_cell BK493.out 1).trans rfl;have hcz6_2:w5.cell? ⟨gb493,2,none⟩=some (.int .i64 a0_2):=(blk_cell BK493.out 2).trans rfl;have hfz6_0:=blk_frozen BK493.out 0;have hfz6_1:=blk_frozen BK493.out 1;have hfz6_2:=blk_frozen BK493.out 2)|((with_reducible refine gate_callee (f:=39) rfl ?_);refine goesL_ (some 8) rfl rfl Try.func39 (by kernel_rfl) rfl #[.agg #[.slice A0_0 l0_0.length c0_0,.int .i64 a0_1,.int .i64 a0_2]] rfl (by (try simp only [List.map_toArray,List.map_cons,List.map_nil]);first|done|rfl|(simp only [List.length_drop,List.length_take];rfl)) ?_;(with_reducible refine (impl_MachSet.calls _ _ l0_0 a0_1 a0_2 t494 true _ ?side1 ?side2 A2.out).mono ?_);(case side1=>repeat (first|exact (Kd.C_below HR0_0.out HB.out)|(with_reducible refine Kd.C_alloc ?_ _)|(with_reducible refine Kd.C_drewN ?_ _)|(with_reducible refine Kd.C_drew ?_)));(case side2=>exact HC0_0.out);rintro e w7 ⟨rfl,hb⟩;refine ⟨_,rfl,?_⟩;have n0_:=Aside0.mk (blk_below (g:=gb493) (o:=.cells #[.slice A0_0 l0_0.length c0_0,.int .i64 a0_1,.int .i64 a0_2] 31 (0,0)) (by (with_reducible repeat (first|refine yE ?_ _|refine yF ?_|refine yG ?_ _));exact BK493.out) hb);have n1_:=Aside0.mk (yP (by repeat (first|(with_reducible first|exact HB.out|apply yA|apply yB|apply yC|refine yD ?_ GE493.out)|exact HB.out)) hb);clear BK493;clear HB;have BK493:=n0_;have HB:=n1_;clear n0_ n1_;(try clear hb);(try clear hb2);(try clear hk);(try clear hi))|((with_reducible refine gate_callee (f:=40) rfl ?_);refine goesL_ (some 14) rfl rfl Try.func40 (by kernel_rfl) rfl #[.string t494] rfl (by (try simp only [List.map_toArray,List.map_cons,List.map_nil]);first|done|rfl|(simp only [List.length_drop,List.length_take];rfl)) ?_;(with_reducible refine (impl_RestMany.calls k t494 t496 t497 _ A4.out).mono ?_);rintro e w8 ⟨rfl,hb⟩;refine ⟨_,rfl,?_⟩;have n0_:=Aside0.mk (blk_below (g:=gb493) (o:=.cells #[.slice A0_0 l0_0.length c0_0,.int .i64 a0_1,.int .i64 a0_2] 31 (0,0)) (by (with_reducible repeat (first|refine yE ?_ _|refine yF ?_|refine yG ?_ _));exact BK493.out) hb);have n1_:=Aside0.mk (yP (by repeat (first|(with_reducible first|exact HB.out|apply yA|apply yB|apply yC|refine yD ?_ GE493.out)|exact HB.out)) hb);clear BK493;clear HB;have BK493:=n0_;have HB:=n1_;clear n0_ n1_;(try clear hb);(try clear hb2);(try clear hk);(try clear hi)))
  go_ret2
  exact ⟨by first|rfl|(simp [errW_none,errW_some]<;>rfl)|(simp [*,errW_none,errW_some]<;>rfl)|(simp [errW_none,errW_some];exact ⟨rfl,rfl⟩),by repeat (first|(with_reducible first|exact HB.out|apply yA|apply yB|apply yC|refine yD ?_ GE493.out)|exact HB.out)⟩
 ·replace c3:=Bool.eq_false_iff.mpr c3
  subst c3
  have H1:(some (0,false))=some (r1,r2):=by rw [if_neg (show ¬ (false=true) by decide)] at H;exact H
  clear H
  have H:=H1
  clear H1
  simp only [Option.some.injEq,Prod.mk.injEq] at H
  obtain ⟨rfl,rfl⟩:=H
  go_enter Try.func22,Try.ntmps22
  go_wp2_with (first|((with_reducible refine gate_dst (N:=1) rfl ?_);refine box_event ?hg (N:=1) ?hd (cs:=#[.slice A0_0 l0_0.length c0_0,.int .i64 a0_1,.int .i64 a0_2]) (t:=31) ?hr ?_;(case hd=>rfl);(case hg=>rfl);(case hr=>first|(go_simp;done)|(go_simp;rfl));intro gb493 hg w9 hbox hb;have n0_:=Aside0.mk (yP (by repeat (first|(with_reducible first|exact HB.out|apply yA|apply yB|apply yC)|exact HB.out)) hb);have n1_:=Aside0.mk (hbox);have n2_:=Aside0.mk ((by rw [hg];exact (yQ (by repeat (first|(with_reducible first|exact HB.out|apply yA|apply yB|apply yC)|exact HB.out))):w.heap.size≤gb493));have n3_:=Aside0.mk ((by rw [hg];exact (yQ (by repeat (first|(with_reducible first|exact HB.out|apply yA|apply yB|apply yC)|exact HB.out))):w.heap.size≤gb493));clear HB;have HB:=n0_;have BK493:=n1_;have GW493:=n2_;have GE493:=n3_;clear n0_ n1_ n2_ n3_;clear hb hbox hg;have hcz10_0:w9.cell? ⟨gb493,0,none⟩=some (.slice A0_0 l0_0.length c0_0):=(blk_cell BK493.out 0).trans rfl;have hcz10_1:w9.cell? ⟨gb493,1,none⟩=some (.int .i64 a0_1):=(blk_cell BK493.out 1).trans rfl;have hcz10_2:w9.cell? ⟨gb493,2,none⟩=some (.int .i64 a0_2):=(blk_cell BK493.out 2).trans rfl;have hfz10_0:=blk_frozen BK493.out 0;have hfz10_1:=blk_frozen BK493.out 1;have hfz10_2:=blk_frozen BK493.out 2)|((with_reducible refine gate_callee (f:=39) rfl ?_);refine goesL_ (some 8) rfl rfl Try.func39 (by kernel_rfl) rfl #[.agg #[.slice A0_0 l0_0.length c0_0,.int .i64 a0_1,.int .i64 a0_2]] rfl (by (try simp only [List.map_toArray,List.map_cons,List.map_nil]);first|done|rfl|(simp only [List.length_drop,List.length_take];rfl)) ?_;(with_reducible refine (impl_MachSet.calls _ _ l0_0 a0_1 a0_2 t494 false _ ?side1 ?side2 A2.out).mono ?_);(case side1=>repeat (first|exact (Kd.C_below HR0_0.out HB.out)|(with_reducible refine Kd.C_alloc ?_ _)|(with_reducible refine Kd.C_drewN ?_ _)|(with_reducible refine Kd.C_drew ?_)));(case side2=>exact HC0_0.out);rintro e w11 ⟨rfl,hb⟩;refine ⟨_,rfl,?_⟩;have n0_:=Aside0.mk (blk_below (g:=gb493) (o:=.cells #[.slice A0_0 l0_0.length c0_0,.int .i64 a0_1,.int .i64 a0_2] 31 (0,0)) (by (with_reducible repeat (first|refine yE ?_ _|refine yF ?_|refine yG ?_ _));exact BK493.out) hb);have n1_:=Aside0.mk (yP (by repeat (first|(with_reducible first|exact HB.out|apply yA|apply yB|apply yC|refine yD ?_ GE493.out)|exact HB.out)) hb);clear BK493;clear HB;have BK493:=n0_;have HB:=n1_;clear n0_ n1_;(try clear hb);(try clear hb2);(try clear hk);(try clear hi)))
  go_ret2
  exact ⟨by first|rfl|(simp [errW_none,errW_some]<;>rfl)|(simp [*,errW_none,errW_some]<;>rfl)|(simp [errW_none,errW_some];exact ⟨rfl,rfl⟩),by repeat (first|(with_reducible first|exact HB.out|apply yA|apply yB|apply yC|refine yD ?_ GE493.out)|exact HB.out)⟩

end Go.Proofs.Ytgheopbdmijlkaa.P

namespace Go.Proofs.Ytgheopbdmijlkaa.P
open Go.RowKit Go.Proofs.YtgheopbdmijlkaaW.PrintWords Go.Proofs.YtgheopbdmijlkaaW.PrintLast Go.Proofs.YtgheopbdmijlkaaW.PrintMore
attribute [local go_sem] max2_int min2_int max_two min_two max_three min_three max_four min_four   -- for this text's walks alone
set_option linter.unusedVariables false
set_option linter.unusedSimpArgs false

/-! ### laws_FnExactMachFew: function 8 -/
noncomputable def laws_FnExactMachFew.j0:Nat→Bool→List Int→Int→Int→List Int→Int→Int→Option (Bool)
 | 0,_,_,_,_,_,_,_=>none
 | k+1,x34,x504000,x504001,x504002,x518000,x518001,x518002=>if x34=true then (some false) else ((laws_toMachine.f k x504000 x504001 x504002).bind fun bt520=>((laws_eqMachine.f k x518000 x518001 x518002 bt520.1 bt520.2.1 bt520.2.2).bind fun t525=>(if t525=true then (some true) else (some false))))
noncomputable def laws_FnExactMachFew.f (k:Nat) (l0_0:List Int) (a0_1:Int) (a0_2:Int):Option (Bool):=(laws_szMachine.f l0_0 a0_1 a0_2 1048576).bind fun t504=>(if t504<0 then (some true) else ((laws_toMachine.f k l0_0 a0_1 a0_2).bind fun bt505=>((spec_MachFew.f k bt505.1 bt505.2.1 bt505.2.2).bind fun bt510=>((laws_toMachine.f k l0_0 a0_1 a0_2).bind fun bt512=>((impl_MachFew.f k bt512.1 bt512.2.1 bt512.2.2).bind fun bt518=>(if bt518.1=bt510.1 then (laws_FnExactMachFew.j0 k (bt518.2 != bt510.2) l0_0 a0_1 a0_2 bt512.1 bt512.2.1 bt512.2.2) else (laws_FnExactMachFew.j0 k true l0_0 a0_1 a0_2 bt512.1 bt512.2.1 bt512.2.2)))))))
theorem laws_FnExactMachFew.mono_l:∀ k,(∀ y0 y1 y2 y3 y4 y5 y6,LeO (laws_FnExactMachFew.j0 k y0 y1 y2 y3 y4 y5 y6) (laws_FnExactMachFew.j0 (k+1) y0 y1 y2 y3 y4 y5 y6))
 | 0=>fun _ _ _ _ _ _ _ r h=>by simp [laws_FnExactMachFew.j0] at h
 | k+1=>by
  have ih0:=laws_FnExactMachFew.mono_l k
  ·intro y0 y1 y2 y3 y4 y5 y6
   unfold laws_FnExactMachFew.j0
   repeat' first
   | (with_reducible exact ih0 _ _ _ _ _ _ _)
   | (with_reducible exact impl_MachFew.mono _ _ _ _)
   | (with_reducible exact laws_eqMachine.mono _ _ _ _ _ _ _)
   | (with_reducible exact laws_toMachine.mono _ _ _ _)
   | (with_reducible exact spec_MachFew.mono _ _ _ _)
   | (with_reducible exact LeO.refl _)
   | (with_reducible exact LeO.none _)
   | (with_reducible refine LeO.ite ?_ ?_)
   | (with_reducible refine LeO.bind ?_ (fun _=>?_))
   | exact ih0 _ _ _ _ _ _ _
   | exact impl_MachFew.mono _ _ _ _
   | exact laws_eqMachine.mono _ _ _ _ _ _ _
   | exact laws_toMachine.mono _ _ _ _
   | exact spec_MachFew.mono _ _ _ _
   | exact LeO.none _
   | refine LeO.ite ?_ ?_
   | refine LeO.bind ?_ (fun _=>?_)
theorem laws_FnExactMachFew.mono:∀ a0 a1 a2 k,LeO (laws_FnExactMachFew.f k a0 a1 a2) (laws_FnExactMachFew.f (k+1) a0 a1 a2):=by
 intro a0 a1 a2 k
 have ih0:=laws_FnExactMachFew.mono_l k
 unfold laws_FnExactMachFew.f
 repeat' first
   | (with_reducible exact ih0 _ _ _ _ _ _ _)
   | (with_reducible exact impl_MachFew.mono _ _ _ _)
   | (with_reducible exact laws_eqMachine.mono _ _ _ _ _ _ _)
   | (with_reducible exact laws_toMachine.mono _ _ _ _)
   | (with_reducible exact spec_MachFew.mono _ _ _ _)
   | (with_reducible exact LeO.refl _)
   | (with_reducible exact LeO.none _)
   | (with_reducible refine LeO.ite ?_ ?_)
   | (with_reducible refine LeO.bind ?_ (fun _=>?_))
   | exact ih0 _ _ _ _ _ _ _
   | exact impl_MachFew.mono _ _ _ _
   | exact laws_eqMachine.mono _ _ _ _ _ _ _
   | exact laws_toMachine.mono _ _ _ _
   | exact spec_MachFew.mono _ _ _ _
   | exact LeO.none _
   | refine LeO.ite ?_ ?_
   | refine LeO.bind ?_ (fun _=>?_)
set_option maxHeartbeats 8000000 in
set_option maxRecDepth 100000 in
theorem laws_FnExactMachFew.calls (k:Nat) (A0_0:Option Addr) (c0_0:Nat) (l0_0:List Int) (a0_1:Int) (a0_2:Int) (r:Bool) (w:World) (hr0_0:Kd.C (Kd.int .i64) w A0_0 l0_0.length l0_0) (hc0_0:l0_0.length≤c0_0) (h:laws_FnExactMachFew.f k l0_0 a0_1 a0_2=some r) :
  Calls Try.prog 8 #[.agg #[.slice A0_0 l0_0.length c0_0,.int .i64 a0_1,.int .i64 a0_2]] w fun e w'=>e=.returned (.bool r)∧Below w.heap.size w w':=by
 have hu27:=Try.underlying27
 have hu31:=Try.underlying31
 have HR0_0:=Aside0.mk hr0_0
 have HC0_0:=Aside0.mk hc0_0
 clear hr0_0 hc0_0
 have HB:=Aside0.mk (Below.refl w.heap.size w)
 have H:((laws_szMachine.f l0_0 a0_1 a0_2 1048576).bind fun t504=>(if t504<0 then (some true) else ((laws_toMachine.f k l0_0 a0_1 a0_2).bind fun bt505=>((spec_MachFew.f k bt505.1 bt505.2.1 bt505.2.2).bind fun bt510=>((laws_toMachine.f k l0_0 a0_1 a0_2).bind fun bt512=>((impl_MachFew.f k bt512.1 bt512.2.1 bt512.2.2).bind fun bt518=>(if bt518.1=bt510.1 then (laws_FnExactMachFew.j0 k (bt518.2 != bt510.2) l0_0 a0_1 a0_2 bt512.1 bt512.2.1 bt512.2.2) else (laws_FnExactMachFew.j0 k true l0_0 a0_1 a0_2 bt512.1 bt512.2.1 bt512.2.2))))))))=some r:=h
 clear h
 replace H:=Option.bind_eq_some_iff.mp H
 obtain ⟨t504,A20,H⟩:=H
 replace H:(if t504<0 then (some true) else ((laws_toMachine.f k l0_0 a0_1 a0_2).bind fun bt505=>((spec_MachFew.f k bt505.1 bt505.2.1 bt505.2.2).bind fun bt510=>((laws_toMachine.f k l0_0 a0_1 a0_2).bind fun bt512=>((impl_MachFew.f k bt512.1 bt512.2.1 bt512.2.2).bind fun bt518=>(if bt518.1=bt510.1 then (laws_FnExactMachFew.j0 k (bt518.2 != bt510.2) l0_0 a0_1 a0_2 bt512.1 bt512.2.1 bt512.2.2) else (laws_FnExactMachFew.j0 k true l0_0 a0_1 a0_2 bt512.1 bt512.2.1 bt512.2.2)))))))=some r:=H
 have A2:=Aside0.mk A20
 clear A20
 by_cases c3:t504<0
 ·rw [if_pos c3] at H
  have c3b0:decide (t504<0)=true:=decide_eq_true c3
  clear c3
  obtain rfl:=Option.some.inj H
  go_enter Try.func8,Try.ntmps8
  go_wp2_with (first|((with_reducible refine gate_dst (N:=1) rfl ?_);refine box_event ?hg (N:=1) ?hd (cs:=#[.slice A0_0 l0_0.length c0_0,.int .i64 a0_1,.int .i64 a0_2]) (t:=27) ?hr ?_;(case hd=>rfl);(case hg=>rfl);(case hr=>first|(go_simp;done)|(go_simp;rfl));intro gb503 hg w4 hbox hb;have n0_:=Aside0.mk (yP (by repeat (first|(with_reducible first|exact HB.out|apply yA|apply yB|apply yC)|exact HB.out)) hb);have n1_:=Aside0.mk (hbox);have n2_:=Aside0.mk ((by rw [hg];exact (yQ (by repeat (first|(with_reducible first|exact HB.out|apply yA|apply yB|apply yC)|exact HB.out))):w.heap.size≤gb503));have n3_:=Aside0.mk ((by rw [hg];exact (yQ (by repeat (first|(with_reducible first|exact HB.out|apply yA|apply yB|apply yC)|exact HB.out))):w.heap.size≤gb503));clear HB;have HB:=n0_;have BK503:=n1_;have GW503:=n2_;have GE503:=n3_;clear n0_ n1_ n2_ n3_;clear hb hbox hg;have hcz5_0:w4.cell? ⟨gb503,0,none⟩=some (.slice A0_0 l0_0.length c0_0):=(blk_cell BK503.out 0).trans rfl;have hcz5_1:w4.cell? ⟨gb503,1,none⟩=some (.int .i64 a0_1):=(blk_cell BK503.out 1).trans rfl;have hcz5_2:w4.cell? ⟨gb503,2,none⟩=some (.int .i64 a0_2):=(blk_cell BK503.out 2).trans rfl;have hfz5_0:=blk_frozen BK503.out 0;have hfz5_1:=blk_frozen BK503.out 1;have hfz5_2:=blk_frozen BK503.out 2)|((with_reducible refine gate_callee (f:=19) rfl ?_);refine goesL_ (some 11) rfl rfl Try.func19 (by kernel_rfl) rfl #[.agg #[.slice A0_0 l0_0.length c0_0,.int .i64 a0_1,.int .i64 a0_2],.int .i64 1048576] rfl (by (try simp only [List.map_toArray,List.map_cons,List.map_nil]);first|done|rfl|(simp only [List.length_drop,List.length_take];rfl)) ?_;(with_reducible refine (laws_szMachine.calls _ _ l0_0 a0_1 a0_2 1048576 t504 _ ?side1 ?side2 A2.out).mono ?_);(case side1=>repeat (first|exact (Kd.C_below HR0_0.out HB.out)|(with_reducible refine Kd.C_alloc ?_ _)|(with_reducible refine Kd.C_drewN ?_ _)|(with_reducible refine Kd.C_drew ?_)));(case side2=>exact HC0_0.out);rintro e w6 ⟨rfl,hb⟩;refine ⟨_,rfl,?_⟩;have n0_:=Aside0.mk (blk_below (g:=gb503) (o:=.cells #[.slice A0_0 l0_0.length c0_0,.int .i64 a0_1,.int .i64 a0_2] 27 (0,0)) (by (with_reducible repeat (first|refine yE ?_ _|refine yF ?_|refine yG ?_ _));exact BK503.out) hb);have n1_:=Aside0.mk (yP (by repeat (first|(with_reducible first|exact HB.out|apply yA|apply yB|apply yC|refine yD ?_ GE503.out)|exact HB.out)) hb);clear BK503;clear HB;have BK503:=n0_;have HB:=n1_;clear n0_ n1_;(try clear hb);(try clear hb2);(try clear hk);(try clear hi)))
  go_ret
  exact ⟨by first|rfl|(simp [errW_none,errW_some]<;>rfl)|(simp [*,errW_none,errW_some]<;>rfl)|(simp [errW_none,errW_some];exact ⟨rfl,rfl⟩),by repeat (first|(with_reducible first|exact HB.out|apply yA|apply yB|apply yC|refine yD ?_ GE503.out)|exact HB.out)⟩
 ·rw [if_neg c3] at H
  have c3b0:decide (t504<0)=false:=decide_eq_false c3
  clear c3
  replace H:=Option.bind_eq_some_iff.mp H
  obtain ⟨⟨t505,t508,t509⟩,A70,H⟩:=H
  replace H:((spec_MachFew.f k t505 t508 t509).bind fun bt510=>((laws_toMachine.f k l0_0 a0_1 a0_2).bind fun bt512=>((impl_MachFew.f k bt512.1 bt512.2.1 bt512.2.2).bind fun bt518=>(if bt518.1=bt510.1 then (laws_FnExactMachFew.j0 k (bt518.2 != bt510.2) l0_0 a0_1 a0_2 bt512.1 bt512.2.1 bt512.2.2) else (laws_FnExactMachFew.j0 k true l0_0 a0_1 a0_2 bt512.1 bt512.2.1 bt512.2.2)))))=some r:=H
  have A7:=Aside0.mk A70
  clear A70
  replace H:=Option.bind_eq_some_iff.mp H
  obtain ⟨⟨t510,t511⟩,A80,H⟩:=H
  replace H:((laws_toMachine.f k l0_0 a0_1 a0_2).bind fun bt512=>((impl_MachFew.f k bt512.1 bt512.2.1 bt512.2.2).bind fun bt518=>(if bt518.1=t510 then (laws_FnExactMachFew.j0 k (bt518.2 != t511) l0_0 a0_1 a0_2 bt512.1 bt512.2.1 bt512.2.2) else (laws_FnExactMachFew.j0 k true l0_0 a0_1 a0_2 bt512.1 bt512.2.1 bt512.2.2))))=some r:=H
  have A8:=Aside0.mk A80
  clear A80
  replace H:=Option.bind_eq_some_iff.mp H
  obtain ⟨⟨t512,t515,t516⟩,A90,H⟩:=H
  replace H:((impl_MachFew.f k t512 t515 t516).bind fun bt518=>(if bt518.1=t510 then (laws_FnExactMachFew.j0 k (bt518.2 != t511) l0_0 a0_1 a0_2 t512 t515 t516) else (laws_FnExactMachFew.j0 k true l0_0 a0_1 a0_2 t512 t515 t516)))=some r:=H
  have A9:=Aside0.mk A90
  clear A90
  replace H:=Option.bind_eq_some_iff.mp H
  obtain ⟨⟨t518,t519⟩,A100,H⟩:=H
  replace H:(if t518=t510 then (laws_FnExactMachFew.j0 k (t519 != t511) l0_0 a0_1 a0_2 t512 t515 t516) else (laws_FnExactMachFew.j0 k true l0_0 a0_1 a0_2 t512 t515 t516))=some r:=H
  have A10:=Aside0.mk A100
  clear A100
  have HC11:=Aside0.mk H
  clear H
  go_enter Try.func8,Try.ntmps8
  go_upto_region 8 with (first|((with_reducible refine gate_dst (N:=1) rfl ?_);refine box_event ?hg (N:=1) ?hd (cs:=#[.slice A0_0 l0_0.length c0_0,.int .i64 a0_1,.int .i64 a0_2]) (t:=27) ?hr ?_;(case hd=>rfl);(case hg=>rfl);(case hr=>first|(go_simp;done)|(go_simp;rfl));intro gb503 hg w12 hbox hb;have n0_:=Aside0.mk (yP (by repeat (first|(with_reducible first|exact HB.out|apply yA|apply yB|apply yC)|exact HB.out)) hb);have n1_:=Aside0.mk (hbox);have n2_:=Aside0.mk ((by rw [hg];exact (yQ (by repeat (first|(with_reducible first|exact HB.out|apply yA|apply yB|apply yC)|exact HB.out))):w.heap.size≤gb503));have n3_:=Aside0.mk ((by rw [hg];exact (yQ (by repeat (first|(with_reducible first|exact HB.out|apply yA|apply yB|apply yC)|exact HB.out))):w.heap.size≤gb503));clear HB;have HB:=n0_;have BK503:=n1_;have GW503:=n2_;have GE503:=n3_;clear n0_ n1_ n2_ n3_;clear hb hbox hg;have hcz13_0:w12.cell? ⟨gb503,0,none⟩=some (.slice A0_0 l0_0.length c0_0):=(blk_cell BK503.out 0).trans rfl;have hcz13_1:w12.cell? ⟨gb503,1,none⟩=some (.int .i64 a0_1):=(blk_cell BK503.out 1).trans rfl;have hcz13_2:w12.cell? ⟨gb503,2,none⟩=some (.int .i64 a0_2):=(blk_cell BK503.out 2).trans rfl;have hfz13_0:=blk_frozen BK503.out 0;have hfz13_1:=blk_frozen BK503.out 1;have hfz13_2:=blk_frozen BK503.out 2)|((with_reducible refine gate_callee (f:=19) rfl ?_);refine goesL_ (some 11) rfl rfl Try.func19 (by kernel_rfl) rfl #[.agg #[.slice A0_0 l0_0.length c0_0,.int .i64 a0_1,.int .i64 a0_2],.int .i64 1048576] rfl (by (try simp only [List.map_toArray,List.map_cons,List.map_nil]);first|done|rfl|(simp only [List.length_drop,List.length_take];rfl)) ?_;(with_reducible refine (laws_szMachine.calls _ _ l0_0 a0_1 a0_2 1048576 t504 _ ?side1 ?side2 A2.out).mono ?_);(case side1=>repeat (first|exact (Kd.C_below HR0_0.out HB.out)|(with_reducible refine Kd.C_alloc ?_ _)|(with_reducible refine Kd.C_drewN ?_ _)|(with_reducible refine Kd.C_drew ?_)));(case side2=>exact HC0_0.out);rintro e w14 ⟨rfl,hb⟩;refine ⟨_,rfl,?_⟩;have n0_:=Aside0.mk (blk_below (g:=gb503) (o:=.cells #[.slice A0_0 l0_0.length c0_0,.int .i64 a0_1,.int .i64 a0_2] 27 (0,0)) (by (with_reducible repeat (first|refine yE ?_ _|refine yF ?_|refine yG ?_ _));exact BK503.out) hb);have n1_:=Aside0.mk (yP (by repeat (first|(with_reducible first|exact HB.out|apply yA|apply yB|apply yC|refine yD ?_ GE503.out)|exact HB.out)) hb);clear BK503;clear HB;have BK503:=n0_;have HB:=n1_;clear n0_ n1_;(try clear hb);(try clear hb2);(try clear hk);(try clear hi);have hcz15_0:w14.cell? ⟨gb503,0,none⟩=some (.slice A0_0 l0_0.length c0_0):=(blk_cell BK503.out 0).trans rfl;have hcz15_1:w14.cell? ⟨gb503,1,none⟩=some (.int .i64 a0_1):=(blk_cell BK503.out 1).trans rfl;have hcz15_2:w14.cell? ⟨gb503,2,none⟩=some (.int .i64 a0_2):=(blk_cell BK503.out 2).trans rfl;have hfz15_0:=blk_frozen BK503.out 0;have hfz15_1:=blk_frozen BK503.out 1;have hfz15_2:=blk_frozen BK503.out 2)|((with_reducible refine gate_callee (f:=21) rfl ?_);refine goesL_ (some 16) rfl rfl Try.func21 (by kernel_rfl) rfl #[.agg #[.slice A0_0 l0_0.length c0_0,.int .i64 a0_1,.int .i64 a0_2]] rfl (by (try simp only [List.map_toArray,List.map_cons,List.map_nil]);first|done|rfl|(simp only [List.length_drop,List.length_take];rfl)) ?_;(with_reducible refine (laws_toMachine.calls k _ _ l0_0 a0_1 a0_2 t505 t508 t509 _ ?side1 ?side2 A7.out).mono ?_);(case side1=>repeat (first|exact (Kd.C_below HR0_0.out HB.out)|(with_reducible refine Kd.C_alloc ?_ _)|(with_reducible refine Kd.C_drewN ?_ _)|(with_reducible refine Kd.C_drew ?_)));(case side2=>exact HC0_0.out);rintro e w16 ⟨v506,rfl,ho0,hb⟩;refine ⟨_,rfl,?_⟩;have n0_:=Aside0.mk (Kd.R_lower ho0 (yQ (by repeat (first|(with_reducible first|exact HB.out|apply yA|apply yB|apply yC|refine yD ?_ GE503.out)|exact HB.out))));have n1_:=Aside0.mk (blk_below (g:=gb503) (o:=.cells #[.slice A0_0 l0_0.length c0_0,.int .i64 a0_1,.int .i64 a0_2] 27 (0,0)) (by (with_reducible repeat (first|refine yE ?_ _|refine yF ?_|refine yG ?_ _));exact BK503.out) hb);have n2_:=Aside0.mk (yP (by repeat (first|(with_reducible first|exact HB.out|apply yA|apply yB|apply yC|refine yD ?_ GE503.out)|exact HB.out)) hb);clear BK503;clear HB;have HO507:=n0_;have BK503:=n1_;have HB:=n2_;clear n0_ n1_ n2_;(try clear hb);(try clear hb2);(try clear hk);(try clear hi);(try clear ho0);obtain ⟨Ao17,co17,eo17⟩:=Kd.R_slice HO507.out;subst eo17)|((with_reducible refine gate_callee (f:=20) rfl ?_);refine goesL_ (some 17) rfl rfl Try.func20 (by kernel_rfl) rfl #[.agg #[.slice Ao17 t505.length co17,.int .i64 t508,.int .i64 t509]] rfl (by (try simp only [List.map_toArray,List.map_cons,List.map_nil]);first|done|rfl|(simp only [List.length_drop,List.length_take];rfl)) ?_;(with_reducible refine (spec_MachFew.calls k _ _ t505 t508 t509 t510 t511 _ ?side1 ?side2 A8.out).mono ?_);(case side1=>repeat (first|exact (Kd.R_reads' HO507.out).2.2|(with_reducible refine Kd.C_alloc ?_ _)|(with_reducible refine Kd.C_drewN ?_ _)|(with_reducible refine Kd.C_drew ?_)));(case side2=>exact (Kd.R_reads' HO507.out).2.1);rintro e w18 ⟨rfl,hb⟩;refine ⟨_,rfl,?_⟩;have n0_:=Aside0.mk (Kd.R_below (by (with_reducible repeat (first|apply yH|apply yI|apply yJ));exact HO507.out) hb);have n1_:=Aside0.mk (blk_below (g:=gb503) (o:=.cells #[.slice A0_0 l0_0.length c0_0,.int .i64 a0_1,.int .i64 a0_2] 27 (0,0)) (by (with_reducible repeat (first|refine yE ?_ _|refine yF ?_|refine yG ?_ _));exact BK503.out) hb);have n2_:=Aside0.mk (yP (by repeat (first|(with_reducible first|exact HB.out|apply yA|apply yB|apply yC|refine yD ?_ GE503.out)|exact HB.out)) hb);clear HO507;clear BK503;clear HB;have HO507:=n0_;have BK503:=n1_;have HB:=n2_;clear n0_ n1_ n2_;(try clear hb);(try clear hb2);(try clear hk);(try clear hi);have hcz19_0:w18.cell? ⟨gb503,0,none⟩=some (.slice A0_0 l0_0.length c0_0):=(blk_cell BK503.out 0).trans rfl;have hcz19_1:w18.cell? ⟨gb503,1,none⟩=some (.int .i64 a0_1):=(blk_cell BK503.out 1).trans rfl;have hcz19_2:w18.cell? ⟨gb503,2,none⟩=some (.int .i64 a0_2):=(blk_cell BK503.out 2).trans rfl;have hfz19_0:=blk_frozen BK503.out 0;have hfz19_1:=blk_frozen BK503.out 1;have hfz19_2:=blk_frozen BK503.out 2)|((with_reducible refine gate_callee (f:=21) rfl ?_);refine goesL_ (some 21) rfl rfl Try.func21 (by kernel_rfl) rfl #[.agg #[.slice A0_0 l0_0.length c0_0,.int .i64 a0_1,.int .i64 a0_2]] rfl (by (try simp only [List.map_toArray,List.map_cons,List.map_nil]);first|done|rfl|(simp only [List.length_drop,List.length_take];rfl)) ?_;(with_reducible refine (laws_toMachine.calls k _ _ l0_0 a0_1 a0_2 t512 t515 t516 _ ?side1 ?side2 A9.out).mono ?_);(case side1=>repeat (first|exact (Kd.C_below HR0_0.out HB.out)|(with_reducible refine Kd.C_alloc ?_ _)|(with_reducible refine Kd.C_drewN ?_ _)|(with_reducible refine Kd.C_drew ?_)));(case side2=>exact HC0_0.out);rintro e w20 ⟨v513,rfl,ho0,hb⟩;refine ⟨_,rfl,?_⟩;have n0_:=Aside0.mk (Kd.R_elder' (by (with_reducible repeat (first|apply yH|apply yI|apply yJ));exact HO507.out) (Kd.R_base ho0) hb);have n1_:=Aside0.mk (Kd.R_lower (Kd.R_new' ho0 (Kd.R_lt (by (with_reducible repeat (first|apply yH|apply yI|apply yJ));exact HO507.out))) (yQ (by repeat (first|(with_reducible first|exact HB.out|apply yA|apply yB|apply yC|refine yD ?_ GE503.out)|exact HB.out))));have n2_:=Aside0.mk (blk_below (g:=gb503) (o:=.cells #[.slice A0_0 l0_0.length c0_0,.int .i64 a0_1,.int .i64 a0_2] 27 (0,0)) (by (with_reducible repeat (first|refine yE ?_ _|refine yF ?_|refine yG ?_ _));exact BK503.out) hb);have n3_:=Aside0.mk (yP (by repeat (first|(with_reducible first|exact HB.out|apply yA|apply yB|apply yC|refine yD ?_ GE503.out)|exact HB.out)) hb);clear HO507;clear BK503;clear HB;have HO507:=n0_;have HO514:=n1_;have BK503:=n2_;have HB:=n3_;clear n0_ n1_ n2_ n3_;(try clear hb);(try clear hb2);(try clear hk);(try clear hi);(try clear ho0))|((with_reducible refine gate_dst (N:=6) rfl ?_);refine box_event ?hg (N:=6) ?hd (cs:=#[.slice none 0 0,.int .i64 0,.int .i64 0]) (t:=31) ?hr ?_;(case hd=>rfl);(case hg=>rfl);(case hr=>first|(go_simp;done)|(go_simp;rfl));intro gb517 hg w21 hbox hb;have n0_:=Aside0.mk (Kd.R_below (by (with_reducible repeat (first|apply yH|apply yI|apply yJ));exact HO507.out) hb);have n1_:=Aside0.mk (Kd.R_below (by (with_reducible repeat (first|apply yH|apply yI|apply yJ));exact HO514.out) hb);have n2_:=Aside0.mk (blk_below (g:=gb503) (o:=.cells #[.slice A0_0 l0_0.length c0_0,.int .i64 a0_1,.int .i64 a0_2] 27 (0,0)) (by (with_reducible repeat (first|refine yE ?_ _|refine yF ?_|refine yG ?_ _));exact BK503.out) hb);have n3_:=Aside0.mk (yP (by repeat (first|(with_reducible first|exact HB.out|apply yA|apply yB|apply yC|refine yD ?_ GE503.out)|exact HB.out)) hb);have n4_:=Aside0.mk (hbox);have n5_:=Aside0.mk ((by rw [hg];exact (yQ (by repeat (first|(with_reducible first|exact HB.out|apply yA|apply yB|apply yC|refine yD ?_ GE503.out)|exact HB.out))):w.heap.size≤gb517));have n6_:=Aside0.mk ((by rw [hg];exact (yQ (by repeat (first|(with_reducible first|exact HB.out|apply yA|apply yB|apply yC|refine yD ?_ GE503.out)|exact HB.out))):w.heap.size≤gb517));have n7_:=Aside0.mk ((by rw [hg];exact Nat.ne_of_lt (blk_lt (g:=gb503) (o:=.cells #[.slice A0_0 l0_0.length c0_0,.int .i64 a0_1,.int .i64 a0_2] 27 (0,0)) (by (with_reducible repeat (first|refine yE ?_ _|refine yF ?_|refine yG ?_ _));exact BK503.out)):gb503≠gb517));have n8_:=Aside0.mk ((by rw [hg];exact Nat.ne_of_gt (blk_lt (g:=gb503) (o:=.cells #[.slice A0_0 l0_0.length c0_0,.int .i64 a0_1,.int .i64 a0_2] 27 (0,0)) (by (with_reducible repeat (first|refine yE ?_ _|refine yF ?_|refine yG ?_ _));exact BK503.out)):gb517≠gb503));clear HO507;clear HO514;clear BK503;clear HB;have HO507:=n0_;have HO514:=n1_;have BK503:=n2_;have HB:=n3_;have BK517:=n4_;have GW517:=n5_;have GE517:=n6_;have NB503_517:=n7_;have NB517_503:=n8_;clear n0_ n1_ n2_ n3_ n4_ n5_ n6_ n7_ n8_;clear hb hbox hg;obtain ⟨Ao22,co22,eo22⟩:=Kd.R_slice HO514.out;subst eo22;have hnb23:=NB517_503.out;have hnc23:=NB503_517.out;have hcz24_0:w21.cell? ⟨gb517,0,none⟩=some (.slice none 0 0):=(blk_cell BK517.out 0).trans rfl;have hcz24_1:w21.cell? ⟨gb517,1,none⟩=some (.int .i64 0):=(blk_cell BK517.out 1).trans rfl;have hcz24_2:w21.cell? ⟨gb517,2,none⟩=some (.int .i64 0):=(blk_cell BK517.out 2).trans rfl;have hfz24_0:=blk_frozen BK517.out 0;have hfz24_1:=blk_frozen BK517.out 1;have hfz24_2:=blk_frozen BK517.out 2)|((with_reducible refine gate_callee (f:=22) rfl ?_);refine goesL_ (some 24) rfl rfl Try.func22 (by kernel_rfl) rfl #[.agg #[.slice Ao22 t512.length co22,.int .i64 t515,.int .i64 t516]] rfl (by (try simp only [List.map_toArray,List.map_cons,List.map_nil]);first|done|rfl|(simp only [List.length_drop,List.length_take];rfl)) ?_;(with_reducible refine (impl_MachFew.calls k _ _ t512 t515 t516 t518 t519 _ ?side1 ?side2 A10.out).mono ?_);(case side1=>refine (Kd.R_reads' (e:=3) (base:=w.heap.size) (ok:=fun k_=>(True∧some k_≠(.slice Ao17 t505.length co17:Value).ownBlock)) (n:=t512.length) (c:=co22) ?_).2.2;exact (by (with_reducible repeat (first|apply yH|apply yI|apply yJ));exact (Kd.R_mono (Kd.R_far (p:=⟨gb517,2,none⟩) (Kd.R_far (p:=⟨gb517,1,none⟩) (Kd.R_far (p:=⟨gb517,0,none⟩) (Kd.R_types HO514.out BK517.out (by decide)) (fun _ hk=>hk.2) (.slice Ao22 t512.length co22)) (fun _ hk=>hk.2) (.int .i64 t515)) (fun _ hk=>hk.2) (.int .i64 t516)) (fun _ h_=>h_.1))));(case side2=>exact (Kd.R_reads' HO514.out).2.1);rintro e w25 ⟨rfl,hb⟩;refine ⟨_,rfl,?_⟩;have n0_:=Aside0.mk (Kd.R_below (by (with_reducible repeat (first|apply yH|apply yI|apply yJ));exact (Kd.R_mono (Kd.R_far (p:=⟨gb517,2,none⟩) (Kd.R_far (p:=⟨gb517,1,none⟩) (Kd.R_far (p:=⟨gb517,0,none⟩) (Kd.R_types HO507.out BK517.out (by decide)) (fun _ hk=>hk.2) (.slice Ao22 t512.length co22)) (fun _ hk=>hk.2) (.int .i64 t515)) (fun _ hk=>hk.2) (.int .i64 t516)) (fun _ h_=>h_.1))) hb);have n1_:=Aside0.mk (Kd.R_below (by (with_reducible repeat (first|apply yH|apply yI|apply yJ));exact (Kd.R_mono (Kd.R_far (p:=⟨gb517,2,none⟩) (Kd.R_far (p:=⟨gb517,1,none⟩) (Kd.R_far (p:=⟨gb517,0,none⟩) (Kd.R_types HO514.out BK517.out (by decide)) (fun _ hk=>hk.2) (.slice Ao22 t512.length co22)) (fun _ hk=>hk.2) (.int .i64 t515)) (fun _ hk=>hk.2) (.int .i64 t516)) (fun _ h_=>h_.1))) hb);have n2_:=Aside0.mk (blk_below (g:=gb503) (o:=.cells #[.slice A0_0 l0_0.length c0_0,.int .i64 a0_1,.int .i64 a0_2] 27 (0,0)) (by (with_reducible repeat (first|refine yE ?_ _|refine yF ?_|refine yG ?_ _));refine blk_far ?_ NB503_517.out _;(with_reducible repeat (first|refine yE ?_ _|refine yF ?_|refine yG ?_ _));refine blk_far ?_ NB503_517.out _;(with_reducible repeat (first|refine yE ?_ _|refine yF ?_|refine yG ?_ _));refine blk_far ?_ NB503_517.out _;(with_reducible repeat (first|refine yE ?_ _|refine yF ?_|refine yG ?_ _));exact BK503.out) hb);have n3_:=Aside0.mk (blk_below (g:=gb517) (o:=.cells #[.slice Ao22 t512.length co22,.int .i64 t515,.int .i64 t516] 31 (0,0)) (by (with_reducible repeat (first|refine yE ?_ _|refine yF ?_|refine yG ?_ _));refine blk_put (cs:=#[.slice Ao22 t512.length co22,.int .i64 t515,.int .i64 0]) ?_ 2 _ rfl;(with_reducible repeat (first|refine yE ?_ _|refine yF ?_|refine yG ?_ _));refine blk_put (cs:=#[.slice Ao22 t512.length co22,.int .i64 0,.int .i64 0]) ?_ 1 _ rfl;(with_reducible repeat (first|refine yE ?_ _|refine yF ?_|refine yG ?_ _));refine blk_put (cs:=#[.slice none 0 0,.int .i64 0,.int .i64 0]) ?_ 0 _ rfl;(with_reducible repeat (first|refine yE ?_ _|refine yF ?_|refine yG ?_ _));exact BK517.out) hb);have n4_:=Aside0.mk (yP (by repeat (first|(with_reducible first|exact HB.out|apply yA|apply yB|apply yC|refine yD ?_ GE503.out|refine yD ?_ GE517.out)|exact HB.out)) hb);clear HO507;clear HO514;clear BK503;clear BK517;clear HB;have HO507:=n0_;have HO514:=n1_;have BK503:=n2_;have BK517:=n3_;have HB:=n4_;clear n0_ n1_ n2_ n3_ n4_;(try clear hb);(try clear hb2);(try clear hk);(try clear hi)))
  (try simp only [Act.put,yK,yL,yM])
  go_cut [34] (fun v34 wc=>∃ (kq:Nat) (x34_10:Bool),v34=.bool x34_10∧Aside0 (laws_FnExactMachFew.j0 kq x34_10 l0_0 a0_1 a0_2 t512 t515 t516=some r)∧Aside0 (kq≤k)∧Aside0 (Kd.R (Kd.int .i64) 3 wc w.heap.size (fun _=>True) (.slice Ao22 t512.length co22) t512)∧Aside0 (wc.heap[gb503]?=some (.cells #[(.slice A0_0 l0_0.length c0_0),.int .i64 a0_1,.int .i64 a0_2] 27 (0,0)))∧Aside0 (wc.heap[gb517]?=some (.cells #[(.slice Ao22 t512.length co22),.int .i64 t515,.int .i64 t516] 31 (0,0)))∧Aside0 (Below w.heap.size w wc))
  case first =>
   have H:=HC11.out
   clear HC11
   by_cases c26:t518=t510
   ·rw [if_pos c26] at H
    have c26b0:(t518 == t510)=true:=beq_iff_eq.mpr c26
    have c26b1:(t518 != t510)=false:=bne_eq_false_iff_eq.mpr c26
    clear c26
    (first|rw [c26b0]|(simp only [i64_w,i32_w];rw [c26b0])|skip)
    have H':=Aside0.mk H
    clear H
    go_wp2
    go_meet
    case rel=>exact ⟨_,((t519 != t511)),(by first|rfl|(simp;done)|(simp [*];done)|(simp [Int.tmod_eq_emod_of_nonneg];done)),H',⟨by first|omega|exact Nat.le_refl _⟩,⟨by (with_reducible repeat (first|apply yH|apply yI|apply yJ));exact Kd.R_mono HO514.out (fun _ hk=>trivial)⟩,⟨by (with_reducible repeat (first|refine yE ?_ _|refine yF ?_|refine yG ?_ _));exact BK503.out⟩,⟨by (with_reducible repeat (first|refine yE ?_ _|refine yF ?_|refine yG ?_ _));exact BK517.out⟩,⟨by repeat (first|(with_reducible first|exact HB.out|apply yA|apply yB|apply yC|refine yD ?_ GE503.out|refine yD ?_ GE517.out)|exact HB.out)⟩⟩
   ·rw [if_neg c26] at H
    have c26b0:(t518 == t510)=false:=beq_eq_false_iff_ne.mpr c26
    have c26b1:(t518 != t510)=true:=bne_iff_ne.mpr c26
    (first|rw [c26b0]|(simp only [i64_w,i32_w];rw [c26b0])|skip)
    have H':=Aside0.mk H
    clear H
    go_wp2
    go_meet
    case rel=>exact ⟨_,(true),(by first|rfl|(simp;done)|(simp [*];done)|(simp [Int.tmod_eq_emod_of_nonneg];done)),H',⟨by first|omega|exact Nat.le_refl _⟩,⟨by (with_reducible repeat (first|apply yH|apply yI|apply yJ));exact Kd.R_mono HO514.out (fun _ hk=>trivial)⟩,⟨by (with_reducible repeat (first|refine yE ?_ _|refine yF ?_|refine yG ?_ _));exact BK503.out⟩,⟨by (with_reducible repeat (first|refine yE ?_ _|refine yF ?_|refine yG ?_ _));exact BK517.out⟩,⟨by repeat (first|(with_reducible first|exact HB.out|apply yA|apply yB|apply yC|refine yD ?_ GE503.out|refine yD ?_ GE517.out)|exact HB.out)⟩⟩
  case rest =>
   clear HC11
   try clear c1
   try clear c2
   try clear p2
   try clear c3
   try clear c3b0
   try clear c8
   try clear c19
   try clear c20
   try clear c21
   try clear c22
   try clear c23
   try clear c26
   try clear c26b0
   try clear c26b1
   try clear hcz13_0
   try clear hcz13_1
   try clear hcz13_2
   try clear hcz15_0
   try clear hcz15_1
   try clear hcz15_2
   try clear hcz19_0
   try clear hcz19_1
   try clear hcz19_2
   try clear hcz24_0
   try clear hcz24_1
   try clear hcz24_2
   try clear hcz5_0
   try clear hcz5_1
   try clear hcz5_2
   try clear hfz13_0
   try clear hfz13_1
   try clear hfz13_2
   try clear hfz15_0
   try clear hfz15_1
   try clear hfz15_2
   try clear hfz19_0
   try clear hfz19_1
   try clear hfz19_2
   try clear hfz24_0
   try clear hfz24_1
   try clear hfz24_2
   try clear hfz5_0
   try clear hfz5_1
   try clear hfz5_2
   obtain ⟨kq,x34_10,rfl,HA,HJ10,HO_518000,BK503,BK517,HB⟩:=hcut
   cases kq with
   | zero=>exact absurd HA.out (by simp [laws_FnExactMachFew.j0])
   | succ kj10 =>
    have H:=HA.out
    clear HA
    simp only [laws_FnExactMachFew.j0] at H
    by_cases c27:x34_10=true
    ·subst c27
     have H1:(some false)=some r:=by rw [if_pos rfl] at H;exact H
     clear H
     have H:=H1
     clear H1
     obtain rfl:=Option.some.inj H
     go_wp2
     go_ret
     exact ⟨by first|rfl|(simp [errW_none,errW_some]<;>rfl)|(simp [*,errW_none,errW_some]<;>rfl)|(simp [errW_none,errW_some];exact ⟨rfl,rfl⟩),by repeat (first|(with_reducible first|exact HB.out|apply yA|apply yB|apply yC|refine yD ?_ GE503.out|refine yD ?_ GE517.out)|exact HB.out)⟩
    ·replace c27:=Bool.eq_false_iff.mpr c27
     subst c27
     have H1:((laws_toMachine.f kj10 l0_0 a0_1 a0_2).bind fun bt520=>((laws_eqMachine.f kj10 t512 t515 t516 bt520.1 bt520.2.1 bt520.2.2).bind fun t525=>(if t525=true then (some true) else (some false))))=some r:=by rw [if_neg (show ¬ (false=true) by decide)] at H;exact H
     clear H
     have H:=H1
     clear H1
     replace H:=Option.bind_eq_some_iff.mp H
     obtain ⟨⟨t520,t523,t524⟩,A280,H⟩:=H
     replace H:((laws_eqMachine.f kj10 t512 t515 t516 t520 t523 t524).bind fun t525=>(if t525=true then (some true) else (some false)))=some r:=H
     have A28:=Aside0.mk A280
     clear A280
     replace H:=Option.bind_eq_some_iff.mp H
     obtain ⟨t525,A290,H⟩:=H
     replace H:(if t525=true then (some true) else (some false))=some r:=H
     have A29:=Aside0.mk A290
     clear A290
     by_cases c30:t525=true
     ·subst c30
      have H1:(some true)=some r:=by rw [if_pos rfl] at H;exact H
      clear H
      have H:=H1
      clear H1
      obtain rfl:=Option.some.inj H
      try go_wp2
      have n0_:=Aside0.mk (yJ HO_518000.out)
      have n1_:=Aside0.mk (yF BK503.out)
      have n2_:=Aside0.mk (yF BK517.out)
      have n3_:=Aside0.mk (yC HB.out)
      clear HO_518000
      clear BK503
      clear BK517
      clear HB
      have HO_518000:=n0_
      have BK503:=n1_
      have BK517:=n2_
      have HB:=n3_
      clear n0_ n1_ n2_ n3_
      refine start_ (n:=5) (S:=fun w'=>w'.cell? ⟨gb517,0,none⟩=some (.slice Ao22 t512.length co22)∧w'.cell? ⟨gb517,1,none⟩=some (.int .i64 t515)∧w'.cell? ⟨gb517,2,none⟩=some (.int .i64 t516)∧w'.cell? ⟨gb503,0,none⟩=some (.slice A0_0 l0_0.length c0_0)∧w'.cell? ⟨gb503,1,none⟩=some (.int .i64 a0_1)∧w'.cell? ⟨gb503,2,none⟩=some (.int .i64 a0_2)) (ds:=[]) #[false,false,false,false,false] (by kernel_rfl) rfl rfl ⟨(blk_cell BK517.out 0).trans rfl,(blk_cell BK517.out 1).trans rfl,(blk_cell BK517.out 2).trans rfl,(blk_cell BK503.out 0).trans rfl,(blk_cell BK503.out 1).trans rfl,(blk_cell BK503.out 2).trans rfl⟩ (fun hHeld=>?_)
      generalize wc.drew=w31 at HO_518000 BK503 BK517 HB hHeld ⊢
      refine take_ (i:=0) (N:=some 35) (v:=?_) (a':=?_) #[true,false,false,false,false] rfl rfl (by kernel_rfl) (fun _ _ _ h=>h) (Or.inl ⟨by rfl,?_⟩) hHeld ?_ ?_
      rotate_left
      ·rintro w' ⟨s0,s1,s2,s3,s4,s5⟩
       go_simp
       with_reducible rfl
      rotate_left
      ·simp only [Act.put,yK,yL,yM,i64_w,i32_w]
       rfl
      refine take_ (i:=1) (N:=some 36) (v:=?_) (a':=?_) #[true,true,false,false,false] rfl rfl (by kernel_rfl) (fun _ _ _ h=>h) (Or.inl ⟨by rfl,?_⟩) hHeld ?_ ?_
      rotate_left
      ·rintro w' ⟨s0,s1,s2,s3,s4,s5⟩
       go_simp
       with_reducible rfl
      rotate_left
      ·simp only [Act.put,yK,yL,yM,i64_w,i32_w]
       rfl
      refine one_ (i:=2) (N:=some 37) #[true,true,true,false,false] rfl rfl (by kernel_rfl) (by decide) (fun K hK=>?_)
      refine goes_ Try.func21 (by kernel_rfl) rfl #[.agg #[.slice A0_0 l0_0.length c0_0,.int .i64 a0_1,.int .i64 a0_2]] (by rfl) rfl rfl (by (try simp only [List.map_toArray,List.map_cons,List.map_nil]);first|done|rfl|(simp only [List.length_drop,List.length_take];rfl)) ?_
      with_reducible refine (laws_toMachine.calls kj10 _ _ l0_0 a0_1 a0_2 t520 t523 t524 _ ?side1 ?side2 A28.out).mono ?_
      (case side1=>repeat (first|exact (Kd.C_below HR0_0.out HB.out)|(with_reducible refine Kd.C_alloc ?_ _)|(with_reducible refine Kd.C_drewN ?_ _)|(with_reducible refine Kd.C_drew ?_)))
      (case side2=>exact HC0_0.out)
      rintro e w32 ⟨v521,rfl,ho0,hb⟩
      refine ⟨_,rfl,?_⟩
      have n0_:=Aside0.mk (Kd.R_elder' (by (with_reducible repeat (first|apply yH|apply yI|apply yJ));exact HO_518000.out) (Kd.R_base ho0) hb)
      have n1_:=Aside0.mk (Kd.R_lower (Kd.R_new' ho0 (Kd.R_lt (by (with_reducible repeat (first|apply yH|apply yI|apply yJ));exact HO_518000.out))) (yQ (by repeat (first|(with_reducible first|exact HB.out|apply yA|apply yB|apply yC|refine yD ?_ GE503.out|refine yD ?_ GE517.out)|exact HB.out))))
      have n2_:=Aside0.mk (blk_below (g:=gb503) (o:=.cells #[.slice A0_0 l0_0.length c0_0,.int .i64 a0_1,.int .i64 a0_2] 27 (0,0)) (by (with_reducible repeat (first|refine yE ?_ _|refine yF ?_|refine yG ?_ _));exact BK503.out) hb)
      have n3_:=Aside0.mk (blk_below (g:=gb517) (o:=.cells #[.slice Ao22 t512.length co22,.int .i64 t515,.int .i64 t516] 31 (0,0)) (by (with_reducible repeat (first|refine yE ?_ _|refine yF ?_|refine yG ?_ _));exact BK517.out) hb)
      have n4_:=Aside0.mk (yP (by repeat (first|(with_reducible first|exact HB.out|apply yA|apply yB|apply yC|refine yD ?_ GE503.out|refine yD ?_ GE517.out)|exact HB.out)) hb)
      clear HO_518000
      clear BK503
      clear BK517
      clear HB
      have HO_518000:=n0_
      have HO522:=n1_
      have BK503:=n2_
      have BK517:=n3_
      have HB:=n4_
      clear n0_ n1_ n2_ n3_ n4_
      (try clear hb)
      (try clear hb2)
      (try clear hk)
      (try clear hi)
      (try clear ho0)
      obtain ⟨Ao33,co33,eo33⟩:=Kd.R_slice HO522.out
      (first|subst eo33|(injection eo33 with f1_ f2_ f3_;have f4_:=f1_.symm;have f5_:=f3_.symm;clear f1_ f2_ f3_;subst f4_;subst f5_))
      refine hK.out _ _ ⟨(blk_cell BK517.out 0).trans rfl,(blk_cell BK517.out 1).trans rfl,(blk_cell BK517.out 2).trans rfl,(blk_cell BK503.out 0).trans rfl,(blk_cell BK503.out 1).trans rfl,(blk_cell BK503.out 2).trans rfl⟩ (fun hHeld=>?_)
      clear hK K
      refine norm_ (a':=?_) ?_ ?_
      rotate_left
      ·show Act.put _ (some 37) _=_
       simp only [Act.put,yK,yL,yM,i64_w,i32_w]
       rfl
      refine one_ (i:=3) (N:=some 38) #[true,true,true,true,false] rfl rfl (by kernel_rfl) (by decide) (fun K hK=>?_)
      refine goes_ Try.func23 (by kernel_rfl) rfl #[.agg #[.slice Ao22 t512.length co22,.int .i64 t515,.int .i64 t516],.agg #[.slice Ao33 t520.length co33,.int .i64 t523,.int .i64 t524]] (by rfl) rfl rfl (by (try simp only [List.map_toArray,List.map_cons,List.map_nil]);first|done|rfl|(simp only [List.length_drop,List.length_take];rfl)) ?_
      with_reducible refine (laws_eqMachine.calls kj10 _ _ t512 t515 t516 _ _ t520 t523 t524 true _ ?side1 ?side2 ?side3 ?side4 A29.out).mono ?_
      (case side1=>repeat (first|exact (Kd.R_reads' HO_518000.out).2.2|(with_reducible refine Kd.C_alloc ?_ _)|(with_reducible refine Kd.C_drewN ?_ _)|(with_reducible refine Kd.C_drew ?_)))
      (case side2=>exact (Kd.R_reads' HO_518000.out).2.1)
      (case side3=>repeat (first|exact (Kd.R_reads' HO522.out).2.2|(with_reducible refine Kd.C_alloc ?_ _)|(with_reducible refine Kd.C_drewN ?_ _)|(with_reducible refine Kd.C_drew ?_)))
      (case side4=>exact (Kd.R_reads' HO522.out).2.1)
      rintro e w34 ⟨rfl,hb⟩
      refine ⟨_,rfl,?_⟩
      have n0_:=Aside0.mk (Kd.R_below (by (with_reducible repeat (first|apply yH|apply yI|apply yJ));exact HO_518000.out) hb)
      have n1_:=Aside0.mk (Kd.R_below (by (with_reducible repeat (first|apply yH|apply yI|apply yJ));exact HO522.out) hb)
      have n2_:=Aside0.mk (blk_below (g:=gb503) (o:=.cells #[.slice A0_0 l0_0.length c0_0,.int .i64 a0_1,.int .i64 a0_2] 27 (0,0)) (by (with_reducible repeat (first|refine yE ?_ _|refine yF ?_|refine yG ?_ _));exact BK503.out) hb)
      have n3_:=Aside0.mk (blk_below (g:=gb517) (o:=.cells #[.slice Ao22 t512.length co22,.int .i64 t515,.int .i64 t516] 31 (0,0)) (by (with_reducible repeat (first|refine yE ?_ _|refine yF ?_|refine yG ?_ _));exact BK517.out) hb)
      have n4_:=Aside0.mk (yP (by repeat (first|(with_reducible first|exact HB.out|apply yA|apply yB|apply yC|refine yD ?_ GE503.out|refine yD ?_ GE517.out)|exact HB.out)) hb)
      clear HO_518000
      clear HO522
      clear BK503
      clear BK517
      clear HB
      have HO_518000:=n0_
      have HO522:=n1_
      have BK503:=n2_
      have BK517:=n3_
      have HB:=n4_
      clear n0_ n1_ n2_ n3_ n4_
      (try clear hb)
      (try clear hb2)
      (try clear hk)
      (try clear hi)
      refine hK.out _ _ ⟨(blk_cell BK517.out 0).trans rfl,(blk_cell BK517.out 1).trans rfl,(blk_cell BK517.out 2).trans rfl,(blk_cell BK503.out 0).trans rfl,(blk_cell BK503.out 1).trans rfl,(blk_cell BK503.out 2).trans rfl⟩ (fun hHeld=>?_)
      clear hK K
      refine norm_ (a':=?_) ?_ ?_
      rotate_left
      ·show Act.put _ (some 38) _=_
       simp only [Act.put,yK,yL,yM,i64_w,i32_w]
       rfl
      refine pure_ (i:=4) (N:=some 39) (v:=?_) (a':=?_) #[true,true,true,true,true] rfl rfl (by kernel_rfl) (fun _ _ _ h=>h) (Or.inl ⟨by rfl,?_⟩) ?_ ?_
      rotate_left
      ·intro w'
       go_simp
       with_reducible rfl
      rotate_left
      ·simp only [Act.put,yK,yL,yM,i64_w,i32_w]
       rfl
      refine done_ (by kernel_rfl) ?_
      try go_wp2
      go_ret
      exact ⟨by first|rfl|(simp [errW_none,errW_some]<;>rfl)|(simp [*,errW_none,errW_some]<;>rfl)|(simp [errW_none,errW_some];exact ⟨rfl,rfl⟩),by repeat (first|(with_reducible first|exact HB.out|apply yA|apply yB|apply yC|refine yD ?_ GE503.out|refine yD ?_ GE517.out)|exact HB.out)⟩
     ·replace c30:=Bool.eq_false_iff.mpr c30
      subst c30
      have H1:(some false)=some r:=by rw [if_neg (show ¬ (false=true) by decide)] at H;exact H
      clear H
      have H:=H1
      clear H1
      obtain rfl:=Option.some.inj H
      try go_wp2
      have n0_:=Aside0.mk (yJ HO_518000.out)
      have n1_:=Aside0.mk (yF BK503.out)
      have n2_:=Aside0.mk (yF BK517.out)
      have n3_:=Aside0.mk (yC HB.out)
      clear HO_518000
      clear BK503
      clear BK517
      clear HB
      have HO_518000:=n0_
      have BK503:=n1_
      have BK517:=n2_
      have HB:=n3_
      clear n0_ n1_ n2_ n3_
      refine start_ (n:=5) (S:=fun w'=>w'.cell? ⟨gb517,0,none⟩=some (.slice Ao22 t512.length co22)∧w'.cell? ⟨gb517,1,none⟩=some (.int .i64 t515)∧w'.cell? ⟨gb517,2,none⟩=some (.int .i64 t516)∧w'.cell? ⟨gb503,0,none⟩=some (.slice A0_0 l0_0.length c0_0)∧w'.cell? ⟨gb503,1,none⟩=some (.int .i64 a0_1)∧w'.cell? ⟨gb503,2,none⟩=some (.int .i64 a0_2)) (ds:=[]) #[false,false,false,false,false] (by kernel_rfl) rfl rfl ⟨(blk_cell BK517.out 0).trans rfl,(blk_cell BK517.out 1).trans rfl,(blk_cell BK517.out 2).trans rfl,(blk_cell BK503.out 0).trans rfl,(blk_cell BK503.out 1).trans rfl,(blk_cell BK503.out 2).trans rfl⟩ (fun hHeld=>?_)
      generalize wc.drew=w35 at HO_518000 BK503 BK517 HB hHeld ⊢
      refine take_ (i:=0) (N:=some 35) (v:=?_) (a':=?_) #[true,false,false,false,false] rfl rfl (by kernel_rfl) (fun _ _ _ h=>h) (Or.inl ⟨by rfl,?_⟩) hHeld ?_ ?_
      rotate_left
      ·rintro w' ⟨s0,s1,s2,s3,s4,s5⟩
       go_simp
       with_reducible rfl
      rotate_left
      ·simp only [Act.put,yK,yL,yM,i64_w,i32_w]
       rfl
      refine take_ (i:=1) (N:=some 36) (v:=?_) (a':=?_) #[true,true,false,false,false] rfl rfl (by kernel_rfl) (fun _ _ _ h=>h) (Or.inl ⟨by rfl,?_⟩) hHeld ?_ ?_
      rotate_left
      ·rintro w' ⟨s0,s1,s2,s3,s4,s5⟩
       go_simp
       with_reducible rfl
      rotate_left
      ·simp only [Act.put,yK,yL,yM,i64_w,i32_w]
       rfl
      refine one_ (i:=2) (N:=some 37) #[true,true,true,false,false] rfl rfl (by kernel_rfl) (by decide) (fun K hK=>?_)
      refine goes_ Try.func21 (by kernel_rfl) rfl #[.agg #[.slice A0_0 l0_0.length c0_0,.int .i64 a0_1,.int .i64 a0_2]] (by rfl) rfl rfl (by (try simp only [List.map_toArray,List.map_cons,List.map_nil]);first|done|rfl|(simp only [List.length_drop,List.length_take];rfl)) ?_
      with_reducible refine (laws_toMachine.calls kj10 _ _ l0_0 a0_1 a0_2 t520 t523 t524 _ ?side1 ?side2 A28.out).mono ?_
      (case side1=>repeat (first|exact (Kd.C_below HR0_0.out HB.out)|(with_reducible refine Kd.C_alloc ?_ _)|(with_reducible refine Kd.C_drewN ?_ _)|(with_reducible refine Kd.C_drew ?_)))
      (case side2=>exact HC0_0.out)
      rintro e w36 ⟨v521,rfl,ho0,hb⟩
      refine ⟨_,rfl,?_⟩
      have n0_:=Aside0.mk (Kd.R_elder' (by (with_reducible repeat (first|apply yH|apply yI|apply yJ));exact HO_518000.out) (Kd.R_base ho0) hb)
      have n1_:=Aside0.mk (Kd.R_lower (Kd.R_new' ho0 (Kd.R_lt (by (with_reducible repeat (first|apply yH|apply yI|apply yJ));exact HO_518000.out))) (yQ (by repeat (first|(with_reducible first|exact HB.out|apply yA|apply yB|apply yC|refine yD ?_ GE503.out|refine yD ?_ GE517.out)|exact HB.out))))
      have n2_:=Aside0.mk (blk_below (g:=gb503) (o:=.cells #[.slice A0_0 l0_0.length c0_0,.int .i64 a0_1,.int .i64 a0_2] 27 (0,0)) (by (with_reducible repeat (first|refine yE ?_ _|refine yF ?_|refine yG ?_ _));exact BK503.out) hb)
      have n3_:=Aside0.mk (blk_below (g:=gb517) (o:=.cells #[.slice Ao22 t512.length co22,.int .i64 t515,.int .i64 t516] 31 (0,0)) (by (with_reducible repeat (first|refine yE ?_ _|refine yF ?_|refine yG ?_ _));exact BK517.out) hb)
      have n4_:=Aside0.mk (yP (by repeat (first|(with_reducible first|exact HB.out|apply yA|apply yB|apply yC|refine yD ?_ GE503.out|refine yD ?_ GE517.out)|exact HB.out)) hb)
      clear HO_518000
      clear BK503
      clear BK517
      clear HB
      have HO_518000:=n0_
      have HO522:=n1_
      have BK503:=n2_
      have BK517:=n3_
      have HB:=n4_
      clear n0_ n1_ n2_ n3_ n4_
      (try clear hb)
      (try clear hb2)
      (try clear hk)
      (try clear hi)
      (try clear ho0)
      obtain ⟨Ao37,co37,eo37⟩:=Kd.R_slice HO522.out
      (first|subst eo37|(injection eo37 with f1_ f2_ f3_;have f4_:=f1_.symm;have f5_:=f3_.symm;clear f1_ f2_ f3_;subst f4_;subst f5_))
      refine hK.out _ _ ⟨(blk_cell BK517.out 0).trans rfl,(blk_cell BK517.out 1).trans rfl,(blk_cell BK517.out 2).trans rfl,(blk_cell BK503.out 0).trans rfl,(blk_cell BK503.out 1).trans rfl,(blk_cell BK503.out 2).trans rfl⟩ (fun hHeld=>?_)
      clear hK K
      refine norm_ (a':=?_) ?_ ?_
      rotate_left
      ·show Act.put _ (some 37) _=_
       simp only [Act.put,yK,yL,yM,i64_w,i32_w]
       rfl
      refine one_ (i:=3) (N:=some 38) #[true,true,true,true,false] rfl rfl (by kernel_rfl) (by decide) (fun K hK=>?_)
      refine goes_ Try.func23 (by kernel_rfl) rfl #[.agg #[.slice Ao22 t512.length co22,.int .i64 t515,.int .i64 t516],.agg #[.slice Ao37 t520.length co37,.int .i64 t523,.int .i64 t524]] (by rfl) rfl rfl (by (try simp only [List.map_toArray,List.map_cons,List.map_nil]);first|done|rfl|(simp only [List.length_drop,List.length_take];rfl)) ?_
      with_reducible refine (laws_eqMachine.calls kj10 _ _ t512 t515 t516 _ _ t520 t523 t524 false _ ?side1 ?side2 ?side3 ?side4 A29.out).mono ?_
      (case side1=>repeat (first|exact (Kd.R_reads' HO_518000.out).2.2|(with_reducible refine Kd.C_alloc ?_ _)|(with_reducible refine Kd.C_drewN ?_ _)|(with_reducible refine Kd.C_drew ?_)))
      (case side2=>exact (Kd.R_reads' HO_518000.out).2.1)
      (case side3=>repeat (first|exact (Kd.R_reads' HO522.out).2.2|(with_reducible refine Kd.C_alloc ?_ _)|(with_reducible refine Kd.C_drewN ?_ _)|(with_reducible refine Kd.C_drew ?_)))
      (case side4=>exact (Kd.R_reads' HO522.out).2.1)
      rintro e w38 ⟨rfl,hb⟩
      refine ⟨_,rfl,?_⟩
      have n0_:=Aside0.mk (Kd.R_below (by (with_reducible repeat (first|apply yH|apply yI|apply yJ));exact HO_518000.out) hb)
      have n1_:=Aside0.mk (Kd.R_below (by (with_reducible repeat (first|apply yH|apply yI|apply yJ));exact HO522.out) hb)
      have n2_:=Aside0.mk (blk_below (g:=gb503) (o:=.cells #[.slice A0_0 l0_0.length c0_0,.int .i64 a0_1,.int .i64 a0_2] 27 (0,0)) (by (with_reducible repeat (first|refine yE ?_ _|refine yF ?_|refine yG ?_ _));exact BK503.out) hb)
      have n3_:=Aside0.mk (blk_below (g:=gb517) (o:=.cells #[.slice Ao22 t512.length co22,.int .i64 t515,.int .i64 t516] 31 (0,0)) (by (with_reducible repeat (first|refine yE ?_ _|refine yF ?_|refine yG ?_ _));exact BK517.out) hb)
      have n4_:=Aside0.mk (yP (by repeat (first|(with_reducible first|exact HB.out|apply yA|apply yB|apply yC|refine yD ?_ GE503.out|refine yD ?_ GE517.out)|exact HB.out)) hb)
      clear HO_518000
      clear HO522
      clear BK503
      clear BK517
      clear HB
      have HO_518000:=n0_
      have HO522:=n1_
      have BK503:=n2_
      have BK517:=n3_
      have HB:=n4_
      clear n0_ n1_ n2_ n3_ n4_
      (try clear hb)
      (try clear hb2)
      (try clear hk)
      (try clear hi)
      refine hK.out _ _ ⟨(blk_cell BK517.out 0).trans rfl,(blk_cell BK517.out 1).trans rfl,(blk_cell BK517.out 2).trans rfl,(blk_cell BK503.out 0).trans rfl,(blk_cell BK503.out 1).trans rfl,(blk_cell BK503.out 2).trans rfl⟩ (fun hHeld=>?_)
      clear hK K
      refine norm_ (a':=?_) ?_ ?_
      rotate_left
      ·show Act.put _ (some 38) _=_
       simp only [Act.put,yK,yL,yM,i64_w,i32_w]
       rfl
      refine pure_ (i:=4) (N:=some 39) (v:=?_) (a':=?_) #[true,true,true,true,true] rfl rfl (by kernel_rfl) (fun _ _ _ h=>h) (Or.inl ⟨by rfl,?_⟩) ?_ ?_
      rotate_left
      ·intro w'
       go_simp
       with_reducible rfl
      rotate_left
      ·simp only [Act.put,yK,yL,yM,i64_w,i32_w]
       rfl
      refine done_ (by kernel_rfl) ?_
      try go_wp2
      go_ret
      exact ⟨by first|rfl|(simp [errW_none,errW_some]<;>rfl)|(simp [*,errW_none,errW_some]<;>rfl)|(simp [errW_none,errW_some];exact ⟨rfl,rfl⟩),by repeat (first|(with_reducible first|exact HB.out|apply yA|apply yB|apply yC|refine yD ?_ GE503.out|refine yD ?_ GE517.out)|exact HB.out)⟩

end Go.Proofs.Ytgheopbdmijlkaa.P

-- impl.tidied reads and makes tidy.
namespace Go.Proofs.Ytgheopbdmijlkaa.P
open Go.RowKit Go.Proofs.YtgheopbdmijlkaaW.PrintWords Go.Proofs.YtgheopbdmijlkaaW.PrintLast Go.Proofs.YtgheopbdmijlkaaW.PrintMore
set_option linter.unusedVariables false
set_option linter.unusedSimpArgs false

/-- What impl.tidied answers. -/
noncomputable def tdd (s : List UInt8) : List Bool × List Bool × Bool := match parse s with | some (a, b) => ((cn (hasB a b)).1, (cn (hasB a b)).2, true) | none => ([], [], false)
theorem tidied_f (s : ByteArray) (hs : s.size ≤ 70368744177664) : Ev (fun k => impl_tidied.f k s) (tdd (chrs s)) := by
  obtain ⟨x, y, h, hp⟩ := setOf_f s hs
  unfold tdd
  cases h0 : parse (chrs s) with
  | none =>
    rw [h0] at h
    refine Ev.congr (f := fun k => (impl_setOf.f k s).bind fun bt186 => (if bt186.2.2 = true then ((impl_set_tidy.f k bt186.1 bt186.2.1).bind fun bt194 => (some (bt194.1, bt194.2, true))) else (some (([] : List Bool), ([] : List Bool), false)))) (fun k => rfl) (Ev.bind h (by simpa using Ev.now _))
  | some ab =>
    obtain ⟨a, b⟩ := ab
    obtain ⟨rfl, rfl⟩ := hp a b h0
    rw [h0] at h
    have hb := parse_some h0
    have ht := tidy_cn x y hb.2.2 (by omega)
    refine Ev.congr (f := fun k => (impl_setOf.f k s).bind fun bt186 => (if bt186.2.2 = true then ((impl_set_tidy.f k bt186.1 bt186.2.1).bind fun bt194 => (some (bt194.1, bt194.2, true))) else (some (([] : List Bool), ([] : List Bool), false)))) (fun k => rfl) (Ev.bind h ?_)
    simp only [Option.isSome_some, if_true]
    exact Ev.bind ht (Ev.now _)

end Go.Proofs.Ytgheopbdmijlkaa.P

-- impl.SetSizes counts the signs of the tidy text.
namespace Go.Proofs.Ytgheopbdmijlkaa.P
open Go.RowKit Go.Proofs.YtgheopbdmijlkaaW.PrintWords Go.Proofs.YtgheopbdmijlkaaW.PrintLast Go.Proofs.YtgheopbdmijlkaaW.PrintMore
set_option linter.unusedVariables false
set_option linter.unusedSimpArgs false

theorem sizes_f (s : ByteArray) (hs : s.size ≤ 70368744177664) : Ev (fun k => impl_SetSizes.f k s) (match parse (chrs s) with | some (a, b) => (((cn (hasB a b)).1.length : Int), ((cn (hasB a b)).2.length : Int), true) | none => (0, 0, false)) := by
  have h := tidied_f s hs
  refine Ev.congr (f := fun k => (impl_tidied.f k s).bind fun bt200 => (some ((bt200.1.length : Int), (bt200.2.1.length : Int), bt200.2.2))) (fun k => rfl) (Ev.bind h ?_)
  unfold tdd
  cases parse (chrs s) with
  | none => exact Ev.now _
  | some ab => exact Ev.now _

end Go.Proofs.Ytgheopbdmijlkaa.P

-- The tidy text of a set, read again.
namespace Go.Proofs.Ytgheopbdmijlkaa.P
open Go.RowKit Go.Proofs.YtgheopbdmijlkaaW.PrintWords Go.Proofs.YtgheopbdmijlkaaW.PrintLast Go.Proofs.YtgheopbdmijlkaaW.PrintMore
set_option linter.unusedVariables false
set_option linter.unusedSimpArgs false

theorem txt_size (p : List Bool × List Bool) : (txt p).1.size ≤ 122 := by
  unfold txt
  split
  · show (textOf p.1 p.2).size ≤ 122; rw [textOf_size]; omega
  · show (0 : Nat) ≤ 122; omega
section
variable {q : Nat → Bool} {m p : Nat}
theorem txt_fits {t : List Bool × List Bool} (h : (txt t).2 = true) : t.1.length ≤ 60 ∧ t.2.length ≤ 60 := by
  unfold txt at h
  split at h
  · assumption
  · cases h
theorem txt_parse (hp : 0 < p) (h : Per q m p) (ht : (txt (cn q)).2 = true) : parse (chrs (txt (cn q)).1) = some ((cn q).1, (cn q).2) := by
  obtain ⟨h1, h2⟩ := txt_fits ht
  rw [txt_ok h1 h2]
  exact parse_cn hp h h1 h2
theorem txt_setf (hp : 0 < p) (h : Per q m p) (ht : (txt (cn q)).2 = true) : setf (chrs (txt (cn q)).1) = q := by
  rw [setf_some (txt_parse hp h ht), cn_has hp h]
theorem txt_tdy (hp : 0 < p) (h : Per q m p) (ht : (txt (cn q)).2 = true) : tdy (chrs (txt (cn q)).1) = ((txt (cn q)).1, true) := by
  obtain ⟨h1, h2⟩ := txt_fits ht
  rw [tdy_some (txt_parse hp h ht), cn_cn hp h, txt_ok h1 h2]
end
end Go.Proofs.Ytgheopbdmijlkaa.P

-- impl.MachFew and spec.MachFew.
namespace Go.Proofs.Ytgheopbdmijlkaa.P
open Go.RowKit Go.Proofs.YtgheopbdmijlkaaW.PrintWords Go.Proofs.YtgheopbdmijlkaaW.PrintLast Go.Proofs.YtgheopbdmijlkaaW.PrintMore
set_option linter.unusedVariables false
set_option linter.unusedSimpArgs false

/-- What MachFew answers. -/
noncomputable def mfr (l : List Int) (st en : Int) : Int × Bool := if mok l st en = true then ((((cn (mq l st en)).1.length + (cn (mq l st en)).2.length : Nat) : Int), true) else (0, false)
theorem mq_facts {l : List Int} {st en : Int} (h : mok l st en = true) : ∃ T F, Shape l st T F ∧ T ≤ 32 ∧ l.length ≤ 5 ∧ (∀ i, ∃ v : Nat, orb l st i = (v : Int) ∧ v < 2 ^ l.length) ∧ (txt (cn (mq l st en))).2 = true ∧ (cn (mq l st en)).1.length ≤ 32 ∧ (cn (mq l st en)).2.length ≤ 32 := by
  obtain ⟨T, F, h1, h2⟩ := mok_shape h
  obtain ⟨h3, h4, h5, _⟩ := mok_of h
  have hlt := h1.lt
  have hsp := cn_spec (by omega : 0 < T - F) (h1.per en)
  refine ⟨T, F, h1, h2, h3.2, orb_in (by omega) h4 h5, ?_, by omega, by omega⟩
  rw [txt_ok (by omega) (by omega)]
theorem mq_parse {l : List Int} {st en : Int} (h : mok l st en = true) : parse (chrs (txt (cn (mq l st en))).1) = some ((cn (mq l st en)).1, (cn (mq l st en)).2) := by
  obtain ⟨T, F, h1, h2, _, _, h3, _⟩ := mq_facts h
  have hlt := h1.lt
  exact txt_parse (by omega : 0 < T - F) (h1.per en) h3
theorem irest_f {l : List Int} {st en : Int} (h : mok l st en = true) : Ev (fun k => impl_RestMany.f k (txt (cn (mq l st en))).1) ((((cn (mq l st en)).1.length + (cn (mq l st en)).2.length : Nat) : Int), true) := by
  obtain ⟨T, F, h1, h2, _, _, h3, h4, h5⟩ := mq_facts h
  have hlt := h1.lt
  have hx := txt_size (cn (mq l st en))
  have hs := sizes_f (txt (cn (mq l st en))).1 (by omega)
  rw [mq_parse h] at hs
  dsimp only at hs
  rw [cn_has (by omega : 0 < T - F) (h1.per en)] at hs
  have hw : wrap64 (((cn (mq l st en)).1.length : Int) + ((cn (mq l st en)).2.length : Int)) = (((cn (mq l st en)).1.length + (cn (mq l st en)).2.length : Nat) : Int) := by rw [w64 (by omega) (by omega)]; omega
  refine Ev.congr (fun k => rfl) (Ev.bind hs ?_)
  simp only [hw]
  exact Ev.now _
theorem imachFew_f (l : List Int) (st en : Int) (hl : l.length ≤ 1000000000000) : Ev (fun k => impl_MachFew.f k l st en) (mfr l st en) := by
  have h1 := machSet_f (show l.length ≤ 1000000000000 by omega) st en
  unfold mfr
  cases hm : mok l st en with
  | false =>
    have e : msr l st en = (⟨#[]⟩, false) := by unfold msr; rw [hm]; rfl
    refine ⟨0, fun k _ => ?_⟩
    dsimp only
    unfold impl_MachFew.f
    rw [h1, e, Option.bind_some]; rfl
  | true =>
    have e : msr l st en = txt (cn (mq l st en)) := by unfold msr; rw [hm]; rfl
    obtain ⟨T, F, _, _, _, _, h3, _⟩ := mq_facts hm
    obtain ⟨K, h2⟩ := irest_f hm
    dsimp only at h2
    refine ⟨K, fun k hk => ?_⟩
    dsimp only
    unfold impl_MachFew.f
    rw [h1, e, Option.bind_some, if_pos h3, h2 k hk, Option.bind_some]; rfl
theorem smachFew_f (l : List Int) (st en : Int) (hl : l.length ≤ 1000000000000) : Ev (fun k => spec_MachFew.f k l st en) (mfr l st en) := by
  refine Ev.congr (fun k => rfl) (Ev.bind (l6MachIn_f l st en (by omega)) ?_)
  unfold mfr
  cases hm : mok l st en with
  | false => exact Ev.now _
  | true =>
    obtain ⟨T, F, h1, h2, h3, h4, _, h5, h6⟩ := mq_facts hm
    have hw : wrap64 (((cn (mq l st en)).1.length : Int) + ((cn (mq l st en)).2.length : Int)) = (((cn (mq l st en)).1.length + (cn (mq l st en)).2.length : Nat) : Int) := by rw [w64 (by omega) (by omega)]; omega
    refine Ev.bind (f := fun k (bt : List Bool × List Bool) => some (wrap64 ((bt.1.length : Int) + (bt.2.length : Int)), true)) (l6mSet_f l st en h3 h1 h2 h4) ?_
    rw [hw]
    exact Ev.now _
end Go.Proofs.Ytgheopbdmijlkaa.P

-- For all arguments the law FnExactMachFew holds.
namespace Go.Proofs.Ytgheopbdmijlkaa.P
open Go.RowKit Go.Proofs.YtgheopbdmijlkaaW.PrintWords Go.Proofs.YtgheopbdmijlkaaW.PrintLast Go.Proofs.YtgheopbdmijlkaaW.PrintMore
set_option linter.unusedVariables false
set_option linter.unusedSimpArgs false

theorem copy_step (l : List Int) {i d : Nat} (h : i < l.length) : (l.take i ++ List.replicate (d + 1) 0).set i (rd l (i : Int)) = l.take (i + 1) ++ List.replicate d 0 := by
  rw [rd_nat l h, List.set_append_right i _ (by rw [List.length_take]; omega), List.length_take, Nat.min_eq_left (by omega), Nat.sub_self, List.replicate_succ, List.set_cons_zero]
  have e : l.take (i + 1) = l.take i ++ [l[i]] := by rw [List.take_add_one, List.getElem?_eq_getElem h]; rfl
  rw [e, List.append_assoc]; rfl
theorem toInts_l0 (l : List Int) (hl : l.length ≤ 10000000) : ∀ (d i : Nat), i ≤ l.length → l.length - i = d → Ev (fun k => laws_toIntS.l0 k l (l.take i ++ List.replicate d 0) i) l := by
  intro d
  induction d with
  | zero =>
    intro i hi hd
    refine Ev.step (f := fun k => some l) (fun k => ?_) (Ev.now _)
    simp only [laws_toIntS.l0]
    rw [if_neg (by omega), List.replicate_zero, List.append_nil, List.take_of_length_le (by omega)]
  | succ d ih =>
    intro i hi hd
    have h := ih (i + 1) (by omega) (by omega)
    rw [← copy_step l (by omega)] at h
    have hlen : (l.take i ++ List.replicate (d + 1) 0).length = l.length := by rw [List.length_append, List.length_take, List.length_replicate]; omega
    refine Ev.step (fun k => ?_) h
    simp only [laws_toIntS.l0]
    rw [if_pos (by omega), if_pos (by omega), hlen, if_pos (by omega), Int.toNat_natCast, wsucc (by omega)]
theorem toInts_f (l : List Int) (hl : l.length ≤ 10000000) : Ev (fun k => laws_toIntS.f k l) l := by
  refine Ev.congr (fun k => ?_) (toInts_l0 l hl l.length 0 (Nat.zero_le _) rfl)
  unfold laws_toIntS.f
  rw [if_pos (by omega), Int.toNat_natCast, if_pos (by omega), List.take_zero, List.nil_append]; rfl
theorem lawExactMachFew_ev (l : List Int) (st en : Int) (hm : l.length ≤ 9223372036854775807) : Ev (fun k => laws_FnExactMachFew.f k l st en) true := by
  by_cases hl : l.length ≤ 1048576
  · have hw : wrap64 (1048576 - (l.length : Int)) = 1048576 - (l.length : Int) := w64 (by omega) (by omega)
    have hsz : laws_szMachine.f l st en 1048576 = some (1048576 - (l.length : Int)) := by
      unfold laws_szMachine.f laws_szIntS.f
      rw [hw, if_neg (by omega), Option.bind_some, if_neg (by omega)]
    obtain ⟨K1, h1⟩ := toInts_f l (by omega)
    dsimp only at h1
    have g1 : ∀ k, K1 ≤ k → laws_toMachine.f k l st en = some (l, st, en) := fun k hk => by
      unfold laws_toMachine.f
      rw [h1 k hk, Option.bind_some]
    obtain ⟨K2, h2⟩ := imachFew_f l st en (by omega)
    dsimp only at h2
    obtain ⟨K3, h3⟩ := smachFew_f l st en (by omega)
    dsimp only at h3
    obtain ⟨K4, h4⟩ := eqInts_f l l (by omega)
    dsimp only at h4
    rw [decide_eq_true rfl] at h4
    have g4 : ∀ k, K4 ≤ k → laws_eqMachine.f k l st en l st en = some true := fun k hk => by
      unfold laws_eqMachine.f
      rw [h4 k hk, Option.bind_some, if_pos rfl, if_pos rfl, if_pos rfl]
    refine ⟨K1 + K2 + K3 + K4 + 1, fun k hk => ?_⟩
    obtain ⟨k, rfl⟩ : ∃ j, k = j + 1 := ⟨k - 1, by omega⟩
    dsimp only
    unfold laws_FnExactMachFew.f
    rw [hsz, Option.bind_some, if_neg (by omega), g1 (k + 1) (by omega), Option.bind_some, h3 (k + 1) (by omega), Option.bind_some, Option.bind_some, h2 (k + 1) (by omega), Option.bind_some, if_pos (by trivial), bne_self_eq_false]
    simp only [laws_FnExactMachFew.j0]
    rw [if_neg (by decide), g1 k (by omega), Option.bind_some, g4 k (by omega), Option.bind_some, if_pos rfl]
  · have hw : wrap64 (1048576 - (l.length : Int)) = 1048576 - (l.length : Int) := w64 (by omega) (by omega)
    have hsz : laws_szMachine.f l st en 1048576 = some (-1) := by
      unfold laws_szMachine.f laws_szIntS.f
      rw [hw, if_pos (by omega), Option.bind_some, if_pos (by omega)]
    refine ⟨0, fun k _ => ?_⟩
    dsimp only
    unfold laws_FnExactMachFew.f
    rw [hsz, Option.bind_some, if_pos (by omega)]
end Go.Proofs.Ytgheopbdmijlkaa.P
