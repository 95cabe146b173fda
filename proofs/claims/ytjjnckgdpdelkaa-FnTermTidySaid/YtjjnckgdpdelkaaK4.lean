/- What these laws reach, joined by a program of this session: contracts (written by that program over the kit's print, or by hand) and plain lemmas. -/
import Derived.Lib.Walk
import Derived.RegionTactic
import Derived.BigRegion
import Derived.Deep.QuietTactic
import Derived.BigQuiet
import Derived.Deep.RegionHeld3
import Derived.Lib.SlBytesConst
import Derived.WalkLawsBesides
import Derived.WalkSpells
import Derived.Lib.Bytealg
import Derived.Laws.Externs
import Derived.Deep.RegionHeldLaw
import Derived.Test.YtjjnckgdpdelkaaK1
import Derived.Test.YtjjnckgdpdelkaaK2
import Derived.Test.YtjjnckgdpdelkaaK3
open Go.Proofs.YtjjnckgdpdelkaaW.PrintWords renaming below_alloc → yA, pw_below_drewN → yB, below_drew1 → yC, below_set → yD, blk_drewN → yE, blk_drew → yF, blk_alloc → yG, below_step → yP, below_size → yQ
open Go.Proofs.YtjjnckgdpdelkaaW.PrintWords.Kd renaming R_alloc → yH, R_drewN → yI, R_drew → yJ
open List renaming setIfInBounds_toArray → yK, set_cons_zero → yL, set_cons_succ → yM
-- Numbers up to 200 in an array: impl.zero.
namespace Go.Proofs.Ytjjnckgdpdelkaa.P
open Go.RowKit Go.Proofs.YtjjnckgdpdelkaaW.PrintWords Go.Proofs.YtjjnckgdpdelkaaW.PrintLast Go.Proofs.YtjjnckgdpdelkaaW.PrintMore
set_option linter.unusedVariables false
set_option linter.unusedSimpArgs false

/-- The cells of the numbers up to 200. -/
def numA (q : Nat → Bool) : Array Value := ((mkT q 201).map Value.bool).toArray
theorem numA_get (q : Nat → Bool) {i : Nat} (h : i < 201) : (numA q)[i]? = some (.bool (q i)) := by
  unfold numA
  rw [List.getElem?_toArray, List.getElem?_map, List.getElem?_eq_getElem (by rw [mkT_length]; exact h)]
  simp [mkT]
theorem numA_set (q : Nat → Bool) (i : Nat) (v : Bool) : (numA q).setIfInBounds i (.bool v) = numA (fun n => if n = i then v else q n) := by
  unfold numA
  rw [← mkT_set, List.map_set, List.setIfInBounds_toArray]
/-- A pointer to an array of the numbers up to 200. -/
def Nums (w : World) (p : Option Addr) (q : Nat → Bool) : Prop := ∃ b, p = some ⟨b, 0, none⟩ ∧ w.heap[b]? = some (.cells (numA q) 70 (0, 0))
theorem Nums.below {w w' : World} {p : Option Addr} {q : Nat → Bool} (h : Nums w p q) (hb : Below w.heap.size w w') : Nums w' p q := by
  obtain ⟨b, e, h⟩ := h; exact ⟨b, e, blk_below h hb⟩
theorem run_build0 (ev : Operand → Value) (W : World) (d : Option Tmp) (p : String) (af : Array Edge) (g : Option (Nat × Bool)) : (execOp ev { dst := d, op := .build 70 #[], type := 70, pos := p, after := af, guard := g }).run Try.prog W = .ok (.value (.agg (numA fun _ => false))) W := by kernel_rfl
theorem run_build1 (a : Act) (W : World) (d : Option Tmp) (p : String) (af : Array Edge) (g : Option (Nat × Bool)) : (execOp a.eval { dst := d, op := .build 70 #[(0, .const (.bool true))], type := 70, pos := p, after := af, guard := g }).run Try.prog W = .ok (.value (.agg (numA fun n => decide (n = 0)))) W := by kernel_rfl
theorem run_boxA (ev : Operand → Value) (W : World) (d : Option Tmp) (p : String) (af : Array Edge) (g : Option (Nat × Bool)) (x : Operand) (ty : TypeId) (q : Nat → Bool) (hv : ev x = .agg (numA q)) : (execOp ev { dst := d, op := .box 70 x, type := ty, pos := p, after := af, guard := g }).run Try.prog W = .ok (.value (.pointer (some ⟨W.heap.size, 0, none⟩))) (W.alloc (.cells (numA q) 70 (0, 0))) := by
  simp [execOp, go_sem, hv]

set_option maxHeartbeats 4000000 in
set_option maxRecDepth 100000 in
theorem zero_calls (w : World) :
    Calls Try.prog 44 #[] w fun e w' => (∃ b, e = .returned (.pointer (some ⟨b, 0, none⟩)) ∧ w.heap.size ≤ b ∧ w'.heap[b]? = some (.cells (numA fun n => decide (n = 0)) 70 (0, 0))) ∧ Below w.heap.size w w' := by
  go_enter Try.func44, Try.ntmps44
  go_wp2_with (first
    | ((with_reducible refine gate_dst (N := 1) rfl ?_); refine Kd.event_run rfl (run_build1 _ _ _ _ _ _) ?_)
    | ((with_reducible refine gate_dst (N := 2) rfl ?_); refine box_event rfl (N := 2) rfl (run_boxA _ _ _ _ _ _ _ _ (fun n => decide (n = 0)) rfl) ?_; intro g hg w1 hbox hb; have HX := Aside0.mk hbox; have HB := Aside0.mk hb; have HG := Aside0.mk (Nat.le_of_eq hg.symm : w.heap.size ≤ g); clear hg hbox hb))
  go_ret
  exact ⟨⟨_, rfl, HG.out, HX.out⟩, HB.out⟩
end Go.Proofs.Ytjjnckgdpdelkaa.P

-- (*numbers).plus: the sums of two sets of numbers.
namespace Go.Proofs.Ytjjnckgdpdelkaa.P
open Go.RowKit Go.Proofs.YtjjnckgdpdelkaaW.PrintWords Go.Proofs.YtjjnckgdpdelkaaW.PrintLast Go.Proofs.YtjjnckgdpdelkaaW.PrintMore
set_option linter.unusedVariables false
set_option linter.unusedSimpArgs false

theorem numA_congr {f g : Nat → Bool} (h : ∀ n, n < 201 → f n = g n) : numA f = numA g := by unfold numA; rw [mkT_congr h]
theorem numA_qset {f g : Nat → Bool} {x y : Nat} (hf : f x = true) {u : Bool} (hu : u = (qsm f g x y (x + y) || g y)) : (numA (qsm f g x y)).setIfInBounds (x + y) (.bool u) = numA (qsm f g x (y + 1)) := by
  rw [numA_set]
  refine numA_congr fun n _ => ?_
  rw [qsm_step hf, hu]
  by_cases e : n = x + y
  · rw [if_pos e, if_pos e, e]
  · rw [if_neg e, if_neg e]

set_option maxHeartbeats 8000000 in
set_option maxRecDepth 100000 in
theorem plus_calls (ba bb : Nat) (f g : Nat → Bool) (w : World) (ha : w.heap[ba]? = some (.cells (numA f) 70 (0, 0))) (hb : w.heap[bb]? = some (.cells (numA g) 70 (0, 0))) :
    Calls Try.prog 46 #[.pointer (some ⟨ba, 0, none⟩), .pointer (some ⟨bb, 0, none⟩)] w fun e w' => (∃ b, e = .returned (.pointer (some ⟨b, 0, none⟩)) ∧ w.heap.size ≤ b ∧ w'.heap[b]? = some (.cells (numA (sumq f g)) 70 (0, 0))) ∧ Below w.heap.size w w' := by
  have HA := Aside0.mk ha
  have HBB := Aside0.mk hb
  clear ha hb
  go_enter Try.func46, Try.ntmps46
  go_wp2_with (first
    | ((with_reducible refine gate_dst (N := 9) rfl ?_); refine Kd.event_run rfl (run_build0 _ _ _ _ _ _) ?_)
    | ((with_reducible refine gate_dst (N := 10) rfl ?_); refine box_event rfl (N := 10) rfl (run_boxA _ _ _ _ _ _ _ _ (fun _ => false) rfl) ?_; intro go hgo w1 hbox hb; have HO := Aside0.mk hbox; have HB := Aside0.mk hb; have HG := Aside0.mk (Nat.le_of_eq hgo.symm : w.heap.size ≤ go); clear hgo hbox hb))
  go_loopg [12] 201 (fun gg s12 wr => ∃ i : Nat, i ≤ 201 ∧ 201 - i ≤ gg ∧ s12 = .int .i64 i ∧ Aside0 (wr.heap[go]? = some (.cells (numA (qsm f g i 0)) 70 (0, 0))) ∧ Aside0 (Below w.heap.size w wr))
  case atStart => exact ⟨0, by omega, by omega, rfl, ⟨by rw [qsm_zero]; exact HO.out⟩, HB⟩
  case round =>
    obtain ⟨i, hi, hgg, rfl, HO1, HB1⟩ := hrel
    rcases Nat.lt_or_ge i 201 with hlt | hge
    · have hca : wr.cell? ⟨ba, i, none⟩ = some (.bool (f i)) := (blk_cell (blk_below HA.out HB1.out) i).trans (numA_get f hlt)
      generalize hfi : f i = fi at *
      have HFI := Aside0.mk hfi
      clear hfi
      go_wp2
      go_quiet (fail)
      have HOd := Aside0.mk (blk_drewN HO1.out nq)
      have HBd := Aside0.mk (pw_below_drewN HB1.out nq)
      go_wp2
      go_loopg [8] 202 (fun gg s8 wk_ => ∃ k : Nat, i + k ≤ 201 ∧ 201 - (i + k) ≤ gg ∧ s8 = .int .i64 k ∧ Aside0 (wk_.heap[go]? = some (.cells (numA (qsm f g i k)) 70 (0, 0))) ∧ Aside0 (Below w.heap.size w wk_))
      case atStart => exact ⟨0, by omega, by omega, rfl, HOd, HBd⟩
      case round =>
        obtain ⟨k, hk, hgg2, rfl, HO2, HB2⟩ := hrel
        have hor : (fi = true ∧ i + k ≤ 200) ∨ (fi = false ∨ 200 < i + k) := by
          cases fi with
          | false => exact .inr (.inl rfl)
          | true => rcases Nat.lt_or_ge 200 (i + k) with h | h
                    · exact .inr (.inr h)
                    · exact .inl ⟨rfl, h⟩
        rcases hor with ⟨rfl, hlt2⟩ | hend
        · have hcb : wr.cell? ⟨bb, k, none⟩ = some (.bool (g k)) := (blk_cell (blk_below HBB.out HB2.out) k).trans (numA_get g (by omega))
          have hco : wr.cell? ⟨go, i + k, none⟩ = some (.bool (qsm f g i k (i + k))) := (blk_cell HO2.out (i + k)).trans (numA_get _ (by omega))
          have hfo : wr.frozen? ⟨go, i + k, none⟩ = false := blk_frozen HO2.out (i + k)
          have hq : ∀ u, u = (qsm f g i k (i + k) || g k) → (numA (qsm f g i k)).setIfInBounds (i + k) (.bool u) = numA (qsm f g i (k + 1)) := fun u hu => numA_qset HFI.out hu
          have HQ := Aside0.mk hq
          clear hq hca
          have h200 : (i : Int) + (k : Int) ≤ 200 := by omega
          generalize qsm f g i k (i + k) = u at *
          generalize g k = v at *
          cases u with
          | false =>
            go_wp2
            go_region
            have HO3 := Aside0.mk (blk_drew (blk_put HO2.out (i + k) (.bool v) (HQ.out v rfl)))
            have HB3 := Aside0.mk (below_drew1 (below_set (g := go) (j := i + k) (v := .bool v) HB2.out HG.out))
            go_wp2
            go_roundg (201 - (i + (k + 1)))
            case measure => omega
            case rel => exact ⟨k + 1, by omega, by omega, congrArg (Value.int .i64) (by omega), HO3, HB3⟩
          | true =>
            go_wp2
            go_region
            have HO3 := Aside0.mk (blk_drew (blk_put HO2.out (i + k) (.bool true) (HQ.out true rfl)))
            have HB3 := Aside0.mk (below_drew1 (below_set (g := go) (j := i + k) (v := .bool true) HB2.out HG.out))
            go_wp2
            go_roundg (201 - (i + (k + 1)))
            case measure => omega
            case rel => exact ⟨k + 1, by omega, by omega, congrArg (Value.int .i64) (by omega), HO3, HB3⟩
        · have hnx : numA (qsm f g i k) = numA (qsm f g (i + 1) 0) := numA_congr fun n hn => qsm_next (N := 201) (by
            rcases hend with h | h
            · exact .inl (HFI.out.trans h)
            · exact .inr (by omega)) hn
          have HN := Aside0.mk (show wr.heap[go]? = some (.cells (numA (qsm f g (i + 1) 0)) 70 (0, 0)) by rw [← hnx]; exact HO2.out)
          clear hnx hca
          rcases hend with rfl | h200
          · go_wp2
            go_roundg (201 - (i + 1))
            case measure => omega
            case rel => exact ⟨i + 1, by omega, by omega, congrArg (Value.int .i64) (by omega), HN, HB2⟩
          · have h201 : ¬ ((i : Int) + (k : Int) ≤ 200) := by omega
            cases fi with
            | false =>
              go_wp2
              go_roundg (201 - (i + 1))
              case measure => omega
              case rel => exact ⟨i + 1, by omega, by omega, congrArg (Value.int .i64) (by omega), HN, HB2⟩
            | true =>
              go_wp2
              go_roundg (201 - (i + 1))
              case measure => omega
              case rel => exact ⟨i + 1, by omega, by omega, congrArg (Value.int .i64) (by omega), HN, HB2⟩
    · obtain rfl : i = 201 := by omega
      go_wp2
      go_ret
      exact ⟨⟨_, rfl, HG.out, by rw [← numA_congr (fun n hn => qsm_end (f := f) (g := g) hn)]; exact HO1.out⟩, HB1.out⟩
end Go.Proofs.Ytjjnckgdpdelkaa.P

-- (*numbers).star: the star of a set of numbers.
namespace Go.Proofs.Ytjjnckgdpdelkaa.P
open Go.RowKit Go.Proofs.YtjjnckgdpdelkaaW.PrintWords Go.Proofs.YtjjnckgdpdelkaaW.PrintLast Go.Proofs.YtjjnckgdpdelkaaW.PrintMore
set_option linter.unusedVariables false
set_option linter.unusedSimpArgs false

/-- The star made up to n, n being made. -/
noncomputable def stN (f : Nat → Bool) (n : Nat) (u : Bool) : Nat → Bool := fun x => if x < n then stq f x else if x = n then u else false
theorem stN_set (f : Nat → Bool) (n : Nat) (u v : Bool) : (numA (stN f n u)).setIfInBounds n (.bool v) = numA (stN f n v) := by
  rw [numA_set]
  refine numA_congr fun x _ => ?_
  unfold stN
  by_cases e : x = n
  · rw [if_pos e, if_neg (by omega), if_pos e]
  · rw [if_neg e, if_neg e]
    by_cases e2 : x < n
    · rw [if_pos e2, if_pos e2]
    · rw [if_neg e2, if_neg e2, if_neg e]
theorem stN_next (f : Nat → Bool) (n : Nat) : stN f n (stq f n) = stN f (n + 1) false := by
  funext x
  unfold stN
  by_cases e : x < n
  · rw [if_pos e, if_pos (by omega)]
  · rw [if_neg e]
    by_cases e2 : x = n
    · rw [if_pos e2, if_pos (by omega), e2]
    · rw [if_neg e2, if_neg (by omega)]
      split <;> rfl
theorem stN_start (f : Nat → Bool) : (fun n => decide (n = 0)) = stN f 1 false := by
  funext x
  unfold stN
  by_cases e : x = 0
  · rw [e, if_pos (by omega), stq_iff.2 (St.zero f)]; rfl
  · rw [decide_eq_false e, if_neg (by omega)]
    split <;> rfl
theorem stN_end (f : Nat → Bool) : numA (stN f 201 false) = numA (stq f) := numA_congr fun n hn => by unfold stN; rw [if_pos hn]
theorem stN_self (f : Nat → Bool) (n : Nat) (u : Bool) : stN f n u n = u := by unfold stN; rw [if_neg (by omega), if_pos rfl]
theorem stN_lt (f : Nat → Bool) {n x : Nat} (u : Bool) (h : x < n) : stN f n u x = stq f x := by unfold stN; rw [if_pos h]

set_option maxHeartbeats 8000000 in
set_option maxRecDepth 100000 in
theorem nstar_calls (ba : Nat) (f : Nat → Bool) (w : World) (ha : w.heap[ba]? = some (.cells (numA f) 70 (0, 0))) :
    Calls Try.prog 45 #[.pointer (some ⟨ba, 0, none⟩)] w fun e w' => (∃ b, e = .returned (.pointer (some ⟨b, 0, none⟩)) ∧ w.heap.size ≤ b ∧ w'.heap[b]? = some (.cells (numA (stq f)) 70 (0, 0))) ∧ Below w.heap.size w w' := by
  have HA := Aside0.mk ha
  have HZ := fun w => Aside0.mk (zero_calls w)
  have HB0 := Aside0.mk (Below.refl w.heap.size w)
  clear ha
  go_enter Try.func45, Try.ntmps45
  go_wp2_with (go_at_call 44; refine (HZ _).out.mono ?_; rintro e w1 ⟨⟨go, rfl, hG, hO⟩, hb⟩; have HO := Aside0.mk hO; have HG := Aside0.mk hG; have HB := Aside0.mk hb; clear hO hG hb)
  go_loopg [4] 200 (fun gg s4 w_ => ∃ n : Nat, 1 ≤ n ∧ n ≤ 201 ∧ 201 - n ≤ gg ∧ s4 = .int .i64 n ∧ Aside0 (w_.heap[go]? = some (.cells (numA (stN f n false)) 70 (0, 0))) ∧ Aside0 (Below w.heap.size w w_))
  case atStart => exact ⟨1, by omega, by omega, by omega, rfl, ⟨by rw [← stN_start]; exact HO.out⟩, HB⟩
  case round =>
    obtain ⟨n, hn1, hn, hgg, rfl, HO1, HB1⟩ := hrel
    rcases Nat.lt_or_ge n 201 with hlt | hge
    · go_wp2
      have HOs := Aside0.mk (show wr.heap[go]? = some (.cells (numA (stN f n (stV f n 1))) 70 (0, 0)) by
        rw [stV_one, show ((n : Int) == 0) = false by rw [beq_eq_false_iff_ne]; omega]; exact HO1.out)
      go_loopg [5] 201 (fun gg s5 w_ => ∃ k : Nat, 1 ≤ k ∧ k ≤ n + 1 ∧ n + 1 - k ≤ gg ∧ s5 = .int .i64 k ∧ Aside0 (w_.heap[go]? = some (.cells (numA (stN f n (stV f n k))) 70 (0, 0))) ∧ Aside0 (Below w.heap.size w w_))
      case atStart => exact ⟨1, by omega, by omega, by omega, rfl, HOs, HB1⟩
      case round =>
        obtain ⟨k, hk1, hk, hgg2, rfl, HO2, HB2⟩ := hrel
        rcases Nat.lt_or_ge k (n + 1) with hlt2 | hge2
        · have hca : wr.cell? ⟨ba, k, none⟩ = some (.bool (f k)) := (blk_cell (blk_below HA.out HB2.out) k).trans (numA_get f (by omega))
          have hco : wr.cell? ⟨go, n, none⟩ = some (.bool (stV f n k)) := ((blk_cell HO2.out n).trans (numA_get _ (by omega))).trans (by rw [stN_self])
          have hcp : wr.cell? ⟨go, n - k, none⟩ = some (.bool (stq f (n - k))) := ((blk_cell HO2.out (n - k)).trans (numA_get _ (by omega))).trans (by rw [stN_lt _ _ (by omega)])
          have hfo : wr.frozen? ⟨go, n, none⟩ = false := blk_frozen HO2.out n
          have HS := Aside0.mk (fun v (hv : v = (stV f n k || (f k && stq f (n - k)))) => (show (numA (stN f n (stV f n k))).setIfInBounds n (.bool v) = numA (stN f n (stV f n (k + 1))) by rw [stN_set, stV_step hk1 (by omega), hv]))
          have hsub : IntKind.i64.wrap ((n : Int) - (k : Int)) = ((n - k : Nat) : Int) := by rw [IntKind.wrap_i64]; omega
          have hkn : (k : Int) ≤ (n : Int) := by omega
          have hn2 : (n : Int) ≤ 200 := by omega
          clear hlt2 hk
          generalize stV f n k = u at *
          generalize f k = a at *
          generalize stq f (n - k) = v at *
          cases u with
          | true =>
            go_wp2
            go_region
            have HO3 := Aside0.mk (blk_drew (blk_put HO2.out n (.bool true) (HS.out true (by simp))))
            have HB3 := Aside0.mk (below_drew1 (below_set (g := go) (j := n) (v := .bool true) HB2.out HG.out))
            go_wp2
            go_roundg (n + 1 - (k + 1))
            case measure => omega
            case rel => exact ⟨k + 1, by omega, by omega, by omega, congrArg (Value.int .i64) (by omega), HO3, HB3⟩
          | false =>
            cases a with
            | true =>
              go_wp2
              go_region
              have HO3 := Aside0.mk (blk_drew (blk_put HO2.out n (.bool v) (HS.out v (by simp))))
              have HB3 := Aside0.mk (below_drew1 (below_set (g := go) (j := n) (v := .bool v) HB2.out HG.out))
              go_wp2
              go_roundg (n + 1 - (k + 1))
              case measure => omega
              case rel => exact ⟨k + 1, by omega, by omega, by omega, congrArg (Value.int .i64) (by omega), HO3, HB3⟩
            | false =>
              go_wp2
              go_region
              have HO3 := Aside0.mk (blk_drew (blk_put HO2.out n (.bool false) (HS.out false (by simp))))
              have HB3 := Aside0.mk (below_drew1 (below_set (g := go) (j := n) (v := .bool false) HB2.out HG.out))
              go_wp2
              go_roundg (n + 1 - (k + 1))
              case measure => omega
              case rel => exact ⟨k + 1, by omega, by omega, by omega, congrArg (Value.int .i64) (by omega), HO3, HB3⟩
        · obtain rfl : k = n + 1 := by omega
          have HN := Aside0.mk (show wr.heap[go]? = some (.cells (numA (stN f (n + 1) false)) 70 (0, 0)) by rw [← stN_next, ← stV_end (f := f) (Nat.lt_succ_self n)]; exact HO2.out)
          have hkn : ¬ (((n + 1 : Nat) : Int) ≤ (n : Int)) := by omega
          go_wp2
          go_roundg (201 - (n + 1))
          case measure => omega
          case rel => exact ⟨n + 1, by omega, by omega, by omega, congrArg (Value.int .i64) (by omega), HN, HB2⟩
    · obtain rfl : n = 201 := by omega
      go_wp2
      go_ret
      exact ⟨⟨_, rfl, HG.out, by rw [← stN_end]; exact HO1.out⟩, HB1.out⟩
end Go.Proofs.Ytjjnckgdpdelkaa.P

-- A term as the program keeps it: pointers to records.
namespace Go.Proofs.Ytjjnckgdpdelkaa.P
open Go.RowKit Go.Proofs.YtjjnckgdpdelkaaW.PrintWords Go.Proofs.YtjjnckgdpdelkaaW.PrintLast Go.Proofs.YtjjnckgdpdelkaaW.PrintMore
set_option linter.unusedVariables false
set_option linter.unusedSimpArgs false

/-- The pointer p leads to the record of a term. -/
def IT (w : World) : Tm → Option Addr → Prop
  | .leaf c, p => ∃ b A n, p = some ⟨b, 0, none⟩ ∧ w.heap[b]? = some (.cells #[.int .u8 (c.toNat : Int), .slice A 0 n] 73 (0, 0))
  | .one c t, p => ∃ b g n q, p = some ⟨b, 0, none⟩ ∧ w.heap[b]? = some (.cells #[.int .u8 (c.toNat : Int), .slice (some ⟨g, 0, none⟩) 1 n] 73 (0, 0)) ∧ 1 ≤ n ∧ w.cell? ⟨g, 0, none⟩ = some (.pointer q) ∧ IT w t q
  | .two c t u, p => ∃ b g n q r, p = some ⟨b, 0, none⟩ ∧ w.heap[b]? = some (.cells #[.int .u8 (c.toNat : Int), .slice (some ⟨g, 0, none⟩) 2 n] 73 (0, 0)) ∧ 2 ≤ n ∧ w.cell? ⟨g, 0, none⟩ = some (.pointer q) ∧ w.cell? ⟨g, 1, none⟩ = some (.pointer r) ∧ IT w t q ∧ IT w u r
theorem IT.below {w w' : World} (hb : Below w.heap.size w w') : ∀ {t : Tm} {p : Option Addr}, IT w t p → IT w' t p
  | .leaf c, p, h => by obtain ⟨b, A, n, e, h1⟩ := h; exact ⟨b, A, n, e, blk_below h1 hb⟩
  | .one c t, p, h => by
    obtain ⟨b, g, n, q, e, h1, h2, h3, h4⟩ := h
    exact ⟨b, g, n, q, e, blk_below h1 hb, h2, (hb.cell (World.block_lt_of_cell? w _ h3)).trans h3, h4.below hb⟩
  | .two c t u, p, h => by
    obtain ⟨b, g, n, q, r, e, h1, h2, h3, h4, h5, h6⟩ := h
    exact ⟨b, g, n, q, r, e, blk_below h1 hb, h2, (hb.cell (World.block_lt_of_cell? w _ h3)).trans h3, (hb.cell (World.block_lt_of_cell? w _ h4)).trans h4, h5.below hb, h6.below hb⟩
theorem IT.some {w : World} {t : Tm} {p : Option Addr} (h : IT w t p) : ∃ b, p = some ⟨b, 0, none⟩ ∧ b < w.heap.size := by
  cases t with
  | leaf c => obtain ⟨b, A, n, e, h1⟩ := h; exact ⟨b, e, blk_lt h1⟩
  | one c t => obtain ⟨b, g, n, q, e, h1, _⟩ := h; exact ⟨b, e, blk_lt h1⟩
  | two c t u => obtain ⟨b, g, n, q, r, e, h1, _⟩ := h; exact ⟨b, e, blk_lt h1⟩
end Go.Proofs.Ytjjnckgdpdelkaa.P

-- (*term).numbers: the numbers up to 200 that a term tells.
namespace Go.Proofs.Ytjjnckgdpdelkaa.P
open Go.RowKit Go.Proofs.YtjjnckgdpdelkaaW.PrintWords Go.Proofs.YtjjnckgdpdelkaaW.PrintLast Go.Proofs.YtjjnckgdpdelkaaW.PrintMore
set_option linter.unusedVariables false
set_option linter.unusedSimpArgs false

/-- What (*term).numbers does at a term. -/
def NumbersOf (t : Tm) : Prop := ∀ (p : Option Addr) (w : World), IT w t p → Calls Try.prog 31 #[.pointer p] w fun e w' => (∃ b, e = .returned (.pointer (some ⟨b, 0, none⟩)) ∧ w.heap.size ≤ b ∧ w'.heap[b]? = some (.cells (numA (tsem t)) 70 (0, 0))) ∧ Below w.heap.size w w'

set_option maxHeartbeats 8000000 in
set_option maxRecDepth 100000 in
theorem numbers_leaf (c : UInt8) (h : (Tm.leaf c).ok) : NumbersOf (.leaf c) := by
  rintro p w ⟨b, A, n, rfl, hb⟩
  have hc0 : w.cell? ⟨b, 0, none⟩ = some (.int .u8 (c.toNat : Int)) := (blk_cell hb 0).trans rfl
  have hlt : b < w.heap.size := blk_lt hb
  have HZ := fun w => Aside0.mk (zero_calls w)
  have hL := isL_cases h
  clear hb h
  rcases hL with rfl | rfl | rfl
  · have HE := Aside0.mk (show numA (tsem (.leaf 48)) = numA (fun _ => false) from numA_congr fun n _ => by simp [tsem])
    rw [show ((48 : UInt8).toNat : Int) = 48 from rfl] at hc0
    go_enter Try.func31, Try.ntmps31
    go_wp2_with (first
      | ((with_reducible refine gate_dst (N := 8) rfl ?_); refine Kd.event_run rfl (run_build0 _ _ _ _ _ _) ?_)
      | ((with_reducible refine gate_dst (N := 9) rfl ?_); refine box_event rfl (N := 9) rfl (run_boxA _ _ _ _ _ _ _ _ (fun _ => false) rfl) ?_; intro go hgo w1 hbox hb; have HO := Aside0.mk hbox; have HB := Aside0.mk hb; have HG := Aside0.mk (Nat.le_of_eq hgo.symm : w.heap.size ≤ go); have hc1 := (hb.cell (p := ⟨b, 0, none⟩) hlt).trans hc0; clear hgo hbox hb))
    go_ret
    exact ⟨⟨_, rfl, HG.out, by rw [HE.out]; exact HO.out⟩, HB.out⟩
  · have HE := Aside0.mk (show numA (tsem (.leaf 49)) = numA (fun n => decide (n = 0)) from numA_congr fun n _ => by simp [tsem])
    rw [show ((49 : UInt8).toNat : Int) = 49 from rfl] at hc0
    go_enter Try.func31, Try.ntmps31
    go_wp2_with (first
      | ((with_reducible refine gate_dst (N := 8) rfl ?_); refine Kd.event_run rfl (run_build0 _ _ _ _ _ _) ?_)
      | ((with_reducible refine gate_dst (N := 9) rfl ?_); refine box_event rfl (N := 9) rfl (run_boxA _ _ _ _ _ _ _ _ (fun _ => false) rfl) ?_; intro go hgo w1 hbox hb; have HO := Aside0.mk hbox; have HB := Aside0.mk hb; have HG := Aside0.mk (Nat.le_of_eq hgo.symm : w.heap.size ≤ go); have hc1 := (hb.cell (p := ⟨b, 0, none⟩) hlt).trans hc0; clear hgo hbox hb)
      | (go_at_call 44; refine (HZ _).out.mono ?_; rintro e w2 ⟨⟨gz, rfl, hG, hO⟩, hb2⟩; have HO2 := Aside0.mk hO; have HG2 := Aside0.mk (Nat.le_trans HB.out.size hG); have HB2 := Aside0.mk (below_step HB.out hb2); clear hO hG hb2))
    go_ret
    exact ⟨⟨_, rfl, HG2.out, by rw [HE.out]; exact HO2.out⟩, HB2.out⟩
  · have HE := Aside0.mk (show (numA (fun _ => false)).setIfInBounds 1 (.bool true) = numA (tsem (.leaf 97)) by
      rw [numA_set]
      exact numA_congr fun n _ => by by_cases e : n = 1 <;> simp [tsem, e])
    rw [show ((97 : UInt8).toNat : Int) = 97 from rfl] at hc0
    go_enter Try.func31, Try.ntmps31
    go_wp2_with (first
      | ((with_reducible refine gate_dst (N := 8) rfl ?_); refine Kd.event_run rfl (run_build0 _ _ _ _ _ _) ?_)
      | ((with_reducible refine gate_dst (N := 9) rfl ?_); refine box_event rfl (N := 9) rfl (run_boxA _ _ _ _ _ _ _ _ (fun _ => false) rfl) ?_; intro go hgo w1 hbox hb; have HO := Aside0.mk hbox; have HB := Aside0.mk hb; have HG := Aside0.mk (Nat.le_of_eq hgo.symm : w.heap.size ≤ go); have hc1 := (hb.cell (p := ⟨b, 0, none⟩) hlt).trans hc0; have hg1 : w1.cell? ⟨go, 1, none⟩ = some (.bool false) := (blk_cell HO.out 1).trans (numA_get _ (by omega)); have hf1 : w1.frozen? ⟨go, 1, none⟩ = false := blk_frozen HO.out 1; clear hgo hbox hb))
    go_ret
    exact ⟨⟨_, rfl, HG.out, blk_put HO.out 1 (.bool true) HE.out⟩, below_set HB.out HG.out⟩

set_option maxHeartbeats 8000000 in
set_option maxRecDepth 100000 in
theorem numbers_star (t : Tm) (ih : NumbersOf t) : NumbersOf (.one 42 t) := by
  rintro p w ⟨b, g, n, q, rfl, hb, hn, hq, ht⟩
  have hc0 : w.cell? ⟨b, 0, none⟩ = some (.int .u8 42) := (blk_cell hb 0).trans rfl
  have hc1 : w.cell? ⟨b, 1, none⟩ = some (.slice (some ⟨g, 0, none⟩) 1 n) := (blk_cell hb 1).trans rfl
  have hlt : b < w.heap.size := blk_lt hb
  have hltg : g < w.heap.size := World.block_lt_of_cell? w _ hq
  have IH := fun w' (h : IT w' t q) => Aside0.mk (ih q w' h)
  have HT := Aside0.mk ht
  have HS := fun ba w' ha => Aside0.mk (nstar_calls ba (tsem t) w' ha)
  have HE := Aside0.mk (show numA (stq (tsem t)) = numA (tsem (.one 42 t)) from rfl)
  generalize tsem t = f at *
  clear hb ht ih
  go_enter Try.func31, Try.ntmps31
  go_wp2_with (first
    | ((with_reducible refine gate_dst (N := 8) rfl ?_); refine Kd.event_run rfl (run_build0 _ _ _ _ _ _) ?_)
    | ((with_reducible refine gate_dst (N := 9) rfl ?_); refine box_event rfl (N := 9) rfl (run_boxA _ _ _ _ _ _ _ _ (fun _ => false) rfl) ?_; intro go hgo w1 hbox hb; have HO := Aside0.mk hbox; have HB := Aside0.mk hb; have HG := Aside0.mk (Nat.le_of_eq hgo.symm : w.heap.size ≤ go); have hd0 := (hb.cell (p := ⟨b, 0, none⟩) hlt).trans hc0; have hd1 := (hb.cell (p := ⟨b, 1, none⟩) hlt).trans hc1; have hdq := (hb.cell (p := ⟨g, 0, none⟩) hltg).trans hq; have HT1 := Aside0.mk (HT.out.below hb); clear hgo hbox hb)
    | (go_at_call 31; refine (IH _ HT1.out).out.mono ?_; rintro e w2 ⟨⟨ga, rfl, hGa, hO⟩, hb2⟩; have HO2 := Aside0.mk hO; have HB2 := Aside0.mk (below_step HB.out hb2); clear hO hb2)
    | (go_at_call 45; refine (HS ga _ HO2.out).out.mono ?_; rintro e w3 ⟨⟨gs, rfl, hGs, hO⟩, hb3⟩; have HO3 := Aside0.mk hO; have HG3 := Aside0.mk (Nat.le_trans HB2.out.size hGs); have HB3 := Aside0.mk (below_step HB2.out hb3); clear hO hb3))
  go_ret
  exact ⟨⟨_, rfl, HG3.out, by rw [← HE.out]; exact HO3.out⟩, HB3.out⟩
end Go.Proofs.Ytjjnckgdpdelkaa.P

-- (*term).numbers at two terms.
namespace Go.Proofs.Ytjjnckgdpdelkaa.P
open Go.RowKit Go.Proofs.YtjjnckgdpdelkaaW.PrintWords Go.Proofs.YtjjnckgdpdelkaaW.PrintLast Go.Proofs.YtjjnckgdpdelkaaW.PrintMore
set_option linter.unusedVariables false
set_option linter.unusedSimpArgs false

/-- Made up to x. -/
def upq (h : Nat → Bool) (x : Nat) : Nat → Bool := fun n => decide (n < x) && h n
theorem upq_set (h : Nat → Bool) (x : Nat) {v : Bool} (hv : v = h x) : (numA (upq h x)).setIfInBounds x (.bool v) = numA (upq h (x + 1)) := by
  rw [numA_set]
  refine numA_congr fun n _ => ?_
  unfold upq
  by_cases e : n = x
  · rw [if_pos e, e, hv, decide_eq_true (by omega)]; rfl
  · rw [if_neg e]
    by_cases e2 : n < x
    · rw [decide_eq_true e2, decide_eq_true (by omega)]
    · rw [decide_eq_false e2, decide_eq_false (by omega)]
theorem upq_zero (h : Nat → Bool) : numA (upq h 0) = numA (fun _ => false) := numA_congr fun n _ => by unfold upq; rw [decide_eq_false (by omega)]; rfl
theorem upq_end (h : Nat → Bool) : numA (upq h 201) = numA h := numA_congr fun n hn => by unfold upq; rw [decide_eq_true hn]; rfl

set_option maxHeartbeats 16000000 in
set_option maxRecDepth 100000 in
theorem numbers_both (c : UInt8) (hc : c = 43 ∨ c = 38) (t u : Tm) (iht : NumbersOf t) (ihu : NumbersOf u) : NumbersOf (.two c t u) := by
  rintro p w ⟨b, g, n, q, r, rfl, hb, hn, hq, hr, ht, hu⟩
  have hn1 : (c.toNat : Int) = 43 ∨ (c.toNat : Int) = 38 := by rcases hc with rfl | rfl; exact .inl rfl; exact .inr rfl
  have hc0 : w.cell? ⟨b, 0, none⟩ = some (.int .u8 (c.toNat : Int)) := (blk_cell hb 0).trans rfl
  have hc1 : w.cell? ⟨b, 1, none⟩ = some (.slice (some ⟨g, 0, none⟩) 2 n) := (blk_cell hb 1).trans rfl
  have hlt : b < w.heap.size := blk_lt hb
  have hltg : g < w.heap.size := World.block_lt_of_cell? w _ hq
  have IH1 := fun w' (h : Below w.heap.size w w') => Aside0.mk (iht q w' (ht.below h))
  have IH2 := fun w' (h : Below w.heap.size w w') => Aside0.mk (ihu r w' (hu.below h))
  have HE := Aside0.mk (show tsem (.two c t u) = fun n => if (c.toNat : Int) = 43 then (tsem t n || tsem u n) else (tsem t n && tsem u n) by
    rcases hc with rfl | rfl
    · rfl
    · rfl)
  generalize tsem (.two c t u) = h at *
  generalize tsem t = f1 at *
  generalize tsem u = f2 at *
  generalize (c.toNat : Int) = s at *
  have HK : ∀ w', Below w.heap.size w w' → (w'.cell? ⟨b, 0, none⟩ = some (.int .u8 s) ∧ w'.cell? ⟨b, 1, none⟩ = some (.slice (some ⟨g, 0, none⟩) 2 n) ∧ w'.cell? ⟨g, 0, none⟩ = some (.pointer q) ∧ w'.cell? ⟨g, 1, none⟩ = some (.pointer r) ∧ Below w.heap.size w w') := fun w' hw =>
    ⟨(hw.cell (p := ⟨b, 0, none⟩) hlt).trans hc0, (hw.cell (p := ⟨b, 1, none⟩) hlt).trans hc1, (hw.cell (p := ⟨g, 0, none⟩) hltg).trans hq, (hw.cell (p := ⟨g, 1, none⟩) hltg).trans hr, hw⟩
  have HKA := Aside0.mk HK
  clear hb ht hu iht ihu HK hc
  have hs0 : ¬ s = 48 ∧ ¬ s = 49 ∧ ¬ s = 97 ∧ ¬ s = 42 := by omega
  obtain ⟨hs1, hs2, hs3, hs4⟩ := hs0
  rcases hn1 with rfl | rfl
  · have hh : ∀ i, h i = (f1 i || f2 i) := fun i => by rw [HE.out]; exact if_pos rfl
    have HH := Aside0.mk hh
    clear hh HE
    go_enter Try.func31, Try.ntmps31
    go_wp2_with (first
      | ((with_reducible refine gate_dst (N := 8) rfl ?_); refine Kd.event_run rfl (run_build0 _ _ _ _ _ _) ?_)
      | ((with_reducible refine gate_dst (N := 9) rfl ?_); refine box_event rfl (N := 9) rfl (run_boxA _ _ _ _ _ _ _ _ (fun _ => false) rfl) ?_; intro go hgo w1 hbox hb; have HO := Aside0.mk hbox; have HB := Aside0.mk hb; have HG := Aside0.mk (Nat.le_of_eq hgo.symm : w.heap.size ≤ go); obtain ⟨hd0, hd1, hdq, hdr, _⟩ := HKA.out w1 hb; clear hgo hbox hb))
    have HKB := Aside0.mk (fun (w' : World) (hw : Below w1.heap.size w1 w') => (show w'.cell? ⟨b, 0, none⟩ = some (.int .u8 43) ∧ w'.cell? ⟨b, 1, none⟩ = some (.slice (some ⟨g, 0, none⟩) 2 n) ∧ w'.cell? ⟨g, 0, none⟩ = some (.pointer q) ∧ w'.cell? ⟨g, 1, none⟩ = some (.pointer r) ∧ go < w'.heap.size ∧ Below w1.heap.size w1 w' from have h9 := HKA.out w' (below_step HB.out hw); ⟨h9.1, h9.2.1, h9.2.2.1, h9.2.2.2.1, Nat.lt_of_lt_of_le (blk_lt HO.out) hw.size, hw⟩))
    go_region_held3 (fun w' => w'.cell? ⟨b, 0, none⟩ = some (.int .u8 43) ∧ w'.cell? ⟨b, 1, none⟩ = some (.slice (some ⟨g, 0, none⟩) 2 n) ∧ w'.cell? ⟨g, 0, none⟩ = some (.pointer q) ∧ w'.cell? ⟨g, 1, none⟩ = some (.pointer r) ∧ go < w'.heap.size ∧ Below w1.heap.size w1 w')
      ((refine HKB.out _ ?_; go_split_ands; (first | exact Below.refl _ _ | assumption | exact below_step (by assumption) hda | exact below_step (by assumption) hdb | (apply below_drew1; first | assumption | exact Below.refl _ _))))
      ((first
        | (go_at_call 31; go_split_ands; with_reducible refine (IH1 _ (below_step HB.out (by assumption))).out.mono ?_; rintro e wa ⟨⟨ga, rfl, hGa, hOa⟩, hda⟩; have GA := Aside0.mk ((fun h9 => Nat.ne_of_lt (Nat.lt_of_lt_of_le h9 hGa)) (by assumption)); have NA := Aside0.mk hOa; (try (have NB2 := Aside0.mk (blk_below NB.out hda))); clear hOa hGa)
        | (go_at_call 31; go_split_ands; with_reducible refine (IH2 _ (below_step HB.out (by assumption))).out.mono ?_; rintro e wb ⟨⟨gb, rfl, hGb, hOb⟩, hdb⟩; have GB := Aside0.mk ((fun h9 => Nat.ne_of_lt (Nat.lt_of_lt_of_le h9 hGb)) (by assumption)); have NB := Aside0.mk hOb; (try (have NA2 := Aside0.mk (blk_below NA.out hdb))); clear hOb hGb)))
    all_goals
      rename_i hHeld
      obtain ⟨_, _, _, _, _, hBW⟩ := hHeld
      have HBW := Aside0.mk (below_step HB.out hBW)
      first
        | (have X1 := NA2; have X2 := NB; have XO := Aside0.mk (blk_below (blk_below (blk_drew HO.out) hda) hdb))
        | (have X1 := NA; have X2 := NB2; have XO := Aside0.mk (blk_below (blk_below (blk_drew HO.out) hdb) hda))
      clear hBW hda hdb hd0 hd1 hdq hdr
      go_wp2
      go_loopg [70] 201 (fun gg s70 w_ => ∃ i : Nat, i ≤ 201 ∧ 201 - i ≤ gg ∧ s70 = .int .i64 i ∧ Aside0 (w_.heap[go]? = some (.cells (numA (upq h i)) 70 (0, 0))) ∧ Aside0 (w_.heap[ga]? = some (.cells (numA f1) 70 (0, 0))) ∧ Aside0 (w_.heap[gb]? = some (.cells (numA f2) 70 (0, 0))) ∧ Aside0 (Below w.heap.size w w_))
      case atStart => exact ⟨0, by omega, by omega, rfl, ⟨by rw [upq_zero]; exact XO.out⟩, X1, X2, HBW⟩
      case round =>
        obtain ⟨i, hi, hgg, rfl, HO1, HA1, HB1, HW1⟩ := hrel
        rcases Nat.lt_or_ge i 201 with hlt2 | hge
        · have hca : wr.cell? ⟨ga, i, none⟩ = some (.bool (f1 i)) := (blk_cell HA1.out i).trans (numA_get f1 hlt2)
          have hcb : wr.cell? ⟨gb, i, none⟩ = some (.bool (f2 i)) := (blk_cell HB1.out i).trans (numA_get f2 hlt2)
          have hco : wr.cell? ⟨go, i, none⟩ = some (.bool (upq h i i)) := (blk_cell HO1.out i).trans (numA_get _ hlt2)
          have hfo : wr.frozen? ⟨go, i, none⟩ = false := blk_frozen HO1.out i
          obtain ⟨hd0, _, _, _, _⟩ := HKA.out wr HW1.out
          have HS := Aside0.mk (fun (v : Bool) (hv : v = (f1 i || f2 i)) => (show (wr.setCell ⟨go, i, none⟩ (.bool v)).drew.heap[go]? = some (.cells (numA (upq h (i + 1))) 70 (0, 0)) ∧ (wr.setCell ⟨go, i, none⟩ (.bool v)).drew.heap[ga]? = some (.cells (numA f1) 70 (0, 0)) ∧ (wr.setCell ⟨go, i, none⟩ (.bool v)).drew.heap[gb]? = some (.cells (numA f2) 70 (0, 0)) ∧ Below w.heap.size w (wr.setCell ⟨go, i, none⟩ (.bool v)).drew from
            ⟨blk_drew (blk_put HO1.out i (.bool v) (upq_set h i (by rw [HH.out, hv]))), blk_drew (blk_far HA1.out (fun e9 => GA.out e9.symm) _), blk_drew (blk_far HB1.out (fun e9 => GB.out e9.symm) _), below_drew1 (below_set (g := go) (j := i) (v := .bool v) HW1.out HG.out)⟩))
          generalize f1 i = a1 at *
          generalize f2 i = a2 at *
          generalize upq h i i = a3 at *
          cases a1 <;> cases a2
          all_goals
            go_wp2
            go_region
            have K1 := Aside0.mk (HS.out _ (by first | exact (rfl : true = _) | exact (rfl : false = _)))
            clear HS
            go_wp2
            go_roundg (201 - (i + 1))
            case measure => omega
            case rel => exact ⟨i + 1, by omega, by omega, congrArg (Value.int .i64) (by omega), ⟨K1.out.1⟩, ⟨K1.out.2.1⟩, ⟨K1.out.2.2.1⟩, ⟨K1.out.2.2.2⟩⟩
        · obtain rfl : i = 201 := by omega
          go_wp2
          go_ret
          exact ⟨⟨_, rfl, HG.out, by rw [← upq_end]; exact HO1.out⟩, HW1.out⟩
  · have hh : ∀ i, h i = (f1 i && f2 i) := fun i => by rw [HE.out]; exact if_neg (by decide)
    have HH := Aside0.mk hh
    clear hh HE
    go_enter Try.func31, Try.ntmps31
    go_wp2_with (first
      | ((with_reducible refine gate_dst (N := 8) rfl ?_); refine Kd.event_run rfl (run_build0 _ _ _ _ _ _) ?_)
      | ((with_reducible refine gate_dst (N := 9) rfl ?_); refine box_event rfl (N := 9) rfl (run_boxA _ _ _ _ _ _ _ _ (fun _ => false) rfl) ?_; intro go hgo w1 hbox hb; have HO := Aside0.mk hbox; have HB := Aside0.mk hb; have HG := Aside0.mk (Nat.le_of_eq hgo.symm : w.heap.size ≤ go); obtain ⟨hd0, hd1, hdq, hdr, _⟩ := HKA.out w1 hb; clear hgo hbox hb))
    have HKB := Aside0.mk (fun (w' : World) (hw : Below w1.heap.size w1 w') => (show w'.cell? ⟨b, 0, none⟩ = some (.int .u8 38) ∧ w'.cell? ⟨b, 1, none⟩ = some (.slice (some ⟨g, 0, none⟩) 2 n) ∧ w'.cell? ⟨g, 0, none⟩ = some (.pointer q) ∧ w'.cell? ⟨g, 1, none⟩ = some (.pointer r) ∧ go < w'.heap.size ∧ Below w1.heap.size w1 w' from have h9 := HKA.out w' (below_step HB.out hw); ⟨h9.1, h9.2.1, h9.2.2.1, h9.2.2.2.1, Nat.lt_of_lt_of_le (blk_lt HO.out) hw.size, hw⟩))
    go_region_held3 (fun w' => w'.cell? ⟨b, 0, none⟩ = some (.int .u8 38) ∧ w'.cell? ⟨b, 1, none⟩ = some (.slice (some ⟨g, 0, none⟩) 2 n) ∧ w'.cell? ⟨g, 0, none⟩ = some (.pointer q) ∧ w'.cell? ⟨g, 1, none⟩ = some (.pointer r) ∧ go < w'.heap.size ∧ Below w1.heap.size w1 w')
      ((refine HKB.out _ ?_; go_split_ands; (first | exact Below.refl _ _ | assumption | exact below_step (by assumption) hda | exact below_step (by assumption) hdb | (apply below_drew1; first | assumption | exact Below.refl _ _))))
      ((first
        | (go_at_call 31; go_split_ands; with_reducible refine (IH1 _ (below_step HB.out (by assumption))).out.mono ?_; rintro e wa ⟨⟨ga, rfl, hGa, hOa⟩, hda⟩; have GA := Aside0.mk ((fun h9 => Nat.ne_of_lt (Nat.lt_of_lt_of_le h9 hGa)) (by assumption)); have NA := Aside0.mk hOa; (try (have NB2 := Aside0.mk (blk_below NB.out hda))); clear hOa hGa)
        | (go_at_call 31; go_split_ands; with_reducible refine (IH2 _ (below_step HB.out (by assumption))).out.mono ?_; rintro e wb ⟨⟨gb, rfl, hGb, hOb⟩, hdb⟩; have GB := Aside0.mk ((fun h9 => Nat.ne_of_lt (Nat.lt_of_lt_of_le h9 hGb)) (by assumption)); have NB := Aside0.mk hOb; (try (have NA2 := Aside0.mk (blk_below NA.out hdb))); clear hOb hGb)))
    all_goals
      rename_i hHeld
      obtain ⟨_, _, _, _, _, hBW⟩ := hHeld
      have HBW := Aside0.mk (below_step HB.out hBW)
      first
        | (have X1 := NA2; have X2 := NB; have XO := Aside0.mk (blk_below (blk_below (blk_drew HO.out) hda) hdb))
        | (have X1 := NA; have X2 := NB2; have XO := Aside0.mk (blk_below (blk_below (blk_drew HO.out) hdb) hda))
      clear hBW hda hdb hd0 hd1 hdq hdr
      go_wp2
      go_loopg [70] 201 (fun gg s70 w_ => ∃ i : Nat, i ≤ 201 ∧ 201 - i ≤ gg ∧ s70 = .int .i64 i ∧ Aside0 (w_.heap[go]? = some (.cells (numA (upq h i)) 70 (0, 0))) ∧ Aside0 (w_.heap[ga]? = some (.cells (numA f1) 70 (0, 0))) ∧ Aside0 (w_.heap[gb]? = some (.cells (numA f2) 70 (0, 0))) ∧ Aside0 (Below w.heap.size w w_))
      case atStart => exact ⟨0, by omega, by omega, rfl, ⟨by rw [upq_zero]; exact XO.out⟩, X1, X2, HBW⟩
      case round =>
        obtain ⟨i, hi, hgg, rfl, HO1, HA1, HB1, HW1⟩ := hrel
        rcases Nat.lt_or_ge i 201 with hlt2 | hge
        · have hca : wr.cell? ⟨ga, i, none⟩ = some (.bool (f1 i)) := (blk_cell HA1.out i).trans (numA_get f1 hlt2)
          have hcb : wr.cell? ⟨gb, i, none⟩ = some (.bool (f2 i)) := (blk_cell HB1.out i).trans (numA_get f2 hlt2)
          have hco : wr.cell? ⟨go, i, none⟩ = some (.bool (upq h i i)) := (blk_cell HO1.out i).trans (numA_get _ hlt2)
          have hfo : wr.frozen? ⟨go, i, none⟩ = false := blk_frozen HO1.out i
          obtain ⟨hd0, _, _, _, _⟩ := HKA.out wr HW1.out
          have HS := Aside0.mk (fun (v : Bool) (hv : v = (f1 i && f2 i)) => (show (wr.setCell ⟨go, i, none⟩ (.bool v)).drew.heap[go]? = some (.cells (numA (upq h (i + 1))) 70 (0, 0)) ∧ (wr.setCell ⟨go, i, none⟩ (.bool v)).drew.heap[ga]? = some (.cells (numA f1) 70 (0, 0)) ∧ (wr.setCell ⟨go, i, none⟩ (.bool v)).drew.heap[gb]? = some (.cells (numA f2) 70 (0, 0)) ∧ Below w.heap.size w (wr.setCell ⟨go, i, none⟩ (.bool v)).drew from
            ⟨blk_drew (blk_put HO1.out i (.bool v) (upq_set h i (by rw [HH.out, hv]))), blk_drew (blk_far HA1.out (fun e9 => GA.out e9.symm) _), blk_drew (blk_far HB1.out (fun e9 => GB.out e9.symm) _), below_drew1 (below_set (g := go) (j := i) (v := .bool v) HW1.out HG.out)⟩))
          generalize f1 i = a1 at *
          generalize f2 i = a2 at *
          generalize upq h i i = a3 at *
          cases a1 <;> cases a2
          all_goals
            go_wp2
            go_region
            have K1 := Aside0.mk (HS.out _ (by first | exact (rfl : true = _) | exact (rfl : false = _)))
            clear HS
            go_wp2
            go_roundg (201 - (i + 1))
            case measure => omega
            case rel => exact ⟨i + 1, by omega, by omega, congrArg (Value.int .i64) (by omega), ⟨K1.out.1⟩, ⟨K1.out.2.1⟩, ⟨K1.out.2.2.1⟩, ⟨K1.out.2.2.2⟩⟩
        · obtain rfl : i = 201 := by omega
          go_wp2
          go_ret
          exact ⟨⟨_, rfl, HG.out, by rw [← upq_end]; exact HO1.out⟩, HW1.out⟩
end Go.Proofs.Ytjjnckgdpdelkaa.P

-- (*term).numbers at a sum of two terms, and at many of one.
namespace Go.Proofs.Ytjjnckgdpdelkaa.P
open Go.RowKit Go.Proofs.YtjjnckgdpdelkaaW.PrintWords Go.Proofs.YtjjnckgdpdelkaaW.PrintLast Go.Proofs.YtjjnckgdpdelkaaW.PrintMore
set_option linter.unusedVariables false
set_option linter.unusedSimpArgs false

set_option maxHeartbeats 16000000 in
set_option maxRecDepth 100000 in
theorem numbers_dot (t u : Tm) (iht : NumbersOf t) (ihu : NumbersOf u) : NumbersOf (.two 46 t u) := by
  rintro p w ⟨b, g, n, q, r, rfl, hb, hn, hq, hr, ht, hu⟩
  have hc0 : w.cell? ⟨b, 0, none⟩ = some (.int .u8 46) := (blk_cell hb 0).trans rfl
  have hc1 : w.cell? ⟨b, 1, none⟩ = some (.slice (some ⟨g, 0, none⟩) 2 n) := (blk_cell hb 1).trans rfl
  have hlt : b < w.heap.size := blk_lt hb
  have hltg : g < w.heap.size := World.block_lt_of_cell? w _ hq
  have IH1 := fun w' (h : Below w.heap.size w w') => Aside0.mk (iht q w' (ht.below h))
  have IH2 := fun w' (h : Below w.heap.size w w') => Aside0.mk (ihu r w' (hu.below h))
  have HE := Aside0.mk (show numA (sumq (tsem t) (tsem u)) = numA (tsem (.two 46 t u)) from rfl)
  generalize tsem (.two 46 t u) = h at *
  generalize tsem t = f1 at *
  generalize tsem u = f2 at *
  have HK : ∀ w', Below w.heap.size w w' → (w'.cell? ⟨b, 0, none⟩ = some (.int .u8 46) ∧ w'.cell? ⟨b, 1, none⟩ = some (.slice (some ⟨g, 0, none⟩) 2 n) ∧ w'.cell? ⟨g, 0, none⟩ = some (.pointer q) ∧ w'.cell? ⟨g, 1, none⟩ = some (.pointer r) ∧ Below w.heap.size w w') := fun w' hw =>
    ⟨(hw.cell (p := ⟨b, 0, none⟩) hlt).trans hc0, (hw.cell (p := ⟨b, 1, none⟩) hlt).trans hc1, (hw.cell (p := ⟨g, 0, none⟩) hltg).trans hq, (hw.cell (p := ⟨g, 1, none⟩) hltg).trans hr, hw⟩
  have HKA := Aside0.mk HK
  clear hb ht hu iht ihu HK
  go_enter Try.func31, Try.ntmps31
  go_wp2_with (first
    | ((with_reducible refine gate_dst (N := 8) rfl ?_); refine Kd.event_run rfl (run_build0 _ _ _ _ _ _) ?_)
    | ((with_reducible refine gate_dst (N := 9) rfl ?_); refine box_event rfl (N := 9) rfl (run_boxA _ _ _ _ _ _ _ _ (fun _ => false) rfl) ?_; intro go hgo w1 hbox hb; have HB := Aside0.mk hb; obtain ⟨hd0, hd1, hdq, hdr, _⟩ := HKA.out w1 hb; clear hgo hbox hb))
  go_region_held3 (fun w' => w'.cell? ⟨b, 0, none⟩ = some (.int .u8 46) ∧ w'.cell? ⟨b, 1, none⟩ = some (.slice (some ⟨g, 0, none⟩) 2 n) ∧ w'.cell? ⟨g, 0, none⟩ = some (.pointer q) ∧ w'.cell? ⟨g, 1, none⟩ = some (.pointer r) ∧ Below w.heap.size w w')
    ((refine HKA.out _ ?_; go_split_ands; (first | exact HB.out | assumption | exact below_step (by assumption) hdp | exact below_step (by assumption) hda | exact below_step (by assumption) hdb | (apply below_drew1; first | assumption | exact HB.out))))
    ((first
      | (go_at_call 31; go_split_ands; with_reducible refine (IH1 _ (by assumption)).out.mono ?_; rintro e wa ⟨⟨ga, rfl, hGa, hOa⟩, hda⟩; have NA := Aside0.mk hOa; (try (have NB2 := Aside0.mk (blk_below NB.out hda))); clear hOa hGa)
      | (go_at_call 31; go_split_ands; with_reducible refine (IH2 _ (by assumption)).out.mono ?_; rintro e wb ⟨⟨gb, rfl, hGb, hOb⟩, hdb⟩; have NB := Aside0.mk hOb; (try (have NA2 := Aside0.mk (blk_below NA.out hdb))); clear hOb hGb)
      | (go_at_call 46; go_split_ands; (first | refine (plus_calls ga gb f1 f2 _ NA2.out NB.out).mono ?_ | refine (plus_calls ga gb f1 f2 _ NA.out NB2.out).mono ?_); rintro e wp ⟨⟨gp, rfl, hGp, hOp⟩, hdp⟩; have NP := Aside0.mk hOp; have GP := Aside0.mk (Nat.le_trans ((fun h9 : Below w.heap.size w _ => h9.size) (by assumption)) hGp); clear hOp hGp)))
  all_goals
    rename_i hHeld
    obtain ⟨_, _, _, _, hBW⟩ := hHeld
    have HBW := Aside0.mk hBW
    clear hBW
    go_wp2
    go_ret
    exact ⟨⟨_, rfl, GP.out, by rw [← HE.out]; exact NP.out⟩, HBW.out⟩

set_option maxHeartbeats 16000000 in
set_option maxRecDepth 100000 in
theorem numbers_many (c : UInt8) (h42 : c ≠ 42) (h50 : 50 ≤ c.toNat) (h53 : c.toNat ≤ 53) (t : Tm) (iht : NumbersOf t) : NumbersOf (.one c t) := by
  rintro p w ⟨b, g, n, q, rfl, hb, hn, hq, ht⟩
  have hc0 : w.cell? ⟨b, 0, none⟩ = some (.int .u8 (c.toNat : Int)) := (blk_cell hb 0).trans rfl
  have hc1 : w.cell? ⟨b, 1, none⟩ = some (.slice (some ⟨g, 0, none⟩) 1 n) := (blk_cell hb 1).trans rfl
  have hlt : b < w.heap.size := blk_lt hb
  have hltg : g < w.heap.size := World.block_lt_of_cell? w _ hq
  have IH := fun w' (h : Below w.heap.size w w') => Aside0.mk (iht q w' (ht.below h))
  have HZ := fun w => Aside0.mk (zero_calls w)
  have HE := Aside0.mk (show numA (mulq (tsem t) (c.toNat - 48)) = numA (tsem (.one c t)) from by
    show _ = numA (if c = 42 then _ else _)
    rw [if_neg h42])
  generalize tsem (.one c t) = h at *
  generalize tsem t = f at *
  obtain ⟨m, hm⟩ : ∃ m, c.toNat = m + 48 := ⟨c.toNat - 48, by omega⟩
  rw [hm] at hc0 HE h50 h53
  rw [Nat.add_sub_cancel] at HE
  have hi : ((m + 48 : Nat) : Int) = (m : Int) + 48 := by omega
  rw [hi] at hc0
  have hm2 : 2 ≤ (m : Int) := by omega
  have hm5 : (m : Int) ≤ 5 := by omega
  clear hb ht iht hm h42 h50 h53 hi
  go_enter Try.func31, Try.ntmps31
  go_wp2_with (first
    | ((with_reducible refine gate_dst (N := 8) rfl ?_); refine Kd.event_run rfl (run_build0 _ _ _ _ _ _) ?_)
    | ((with_reducible refine gate_dst (N := 9) rfl ?_); refine box_event rfl (N := 9) rfl (run_boxA _ _ _ _ _ _ _ _ (fun _ => false) rfl) ?_; intro go hgo w1 hbox hb; have HB := Aside0.mk hb; have hd0 := (hb.cell (p := ⟨b, 0, none⟩) hlt).trans hc0; have hd1 := (hb.cell (p := ⟨b, 1, none⟩) hlt).trans hc1; have hdq := (hb.cell (p := ⟨g, 0, none⟩) hltg).trans hq; clear hgo hbox hb)
    | (go_at_call 31; refine (IH _ HB.out).out.mono ?_; rintro e w2 ⟨⟨ga, rfl, hGa, hO⟩, hb2⟩; have NA := Aside0.mk hO; have HB2 := Aside0.mk (below_step HB.out hb2); clear hO hGa hb2)
    | (go_at_call 44; refine (HZ _).out.mono ?_; rintro e w3 ⟨⟨gz, rfl, hG, hO⟩, hb3⟩; have NZ := Aside0.mk hO; have NA3 := Aside0.mk (blk_below NA.out hb3); have GZ := Aside0.mk (Nat.le_trans HB2.out.size hG); have HB3 := Aside0.mk (below_step HB2.out hb3); have hs3 := (HB3.out.cell (p := ⟨b, 0, none⟩) hlt).trans hc0; clear hO hG hb3))
  go_loopg [3, 27] m (fun gg s3 s27 w_ => ∃ (j go_ : Nat), j ≤ m ∧ m - j ≤ gg ∧ s27 = .int .u8 j ∧ s3 = .pointer (some ⟨go_, 0, none⟩) ∧ Aside0 (w.heap.size ≤ go_) ∧ Aside0 (w_.heap[go_]? = some (.cells (numA (mulq f j)) 70 (0, 0))) ∧ Aside0 (w_.heap[ga]? = some (.cells (numA f) 70 (0, 0))) ∧ Aside0 (Below w.heap.size w w_))
  case atStart => exact ⟨0, gz, by omega, by omega, rfl, rfl, GZ, NZ, NA3, HB3⟩
  case round =>
    obtain ⟨j, g1, hj, hgg, rfl, rfl, HG1, HO1, HA1, HW1⟩ := hrel
    rcases Nat.lt_or_ge j m with hlt2 | hge
    · have HP := Aside0.mk (plus_calls g1 ga (mulq f j) f wr HO1.out HA1.out)
      go_wp2_with (go_at_call 46; refine HP.out.mono ?_; rintro e w5 ⟨⟨g5, rfl, hG, hO⟩, hb5⟩; have NO5 := Aside0.mk hO; have NA5 := Aside0.mk (blk_below HA1.out hb5); have GZ5 := Aside0.mk (Nat.le_trans HW1.out.size hG); have HB5 := Aside0.mk (below_step HW1.out hb5); clear hO hG hb5)
      go_roundg (m - (j + 1))
      case measure => omega
      case rel => exact ⟨j + 1, g5, by omega, by omega, congrArg (Value.int .u8) (by omega), rfl, GZ5, NO5, NA5, HB5⟩
    · obtain rfl : j = m := by omega
      go_wp2
      go_ret
      exact ⟨⟨_, rfl, HG1.out, by rw [← HE.out]; exact HO1.out⟩, HW1.out⟩
theorem numbers_all : ∀ t : Tm, t.ok → NumbersOf t
  | .leaf c, h => numbers_leaf c h
  | .one c t, h => by
    rcases isO_cases h.1 with rfl | ⟨h1, h2, h3⟩
    · exact numbers_star t (numbers_all t h.2)
    · exact numbers_many c h1 h2 h3 t (numbers_all t h.2)
  | .two c t u, h => by
    rcases isT_cases h.1 with rfl | rfl | rfl
    · exact numbers_both 43 (.inl rfl) t u (numbers_all t h.2.1) (numbers_all u h.2.2)
    · exact numbers_dot t u (numbers_all t h.2.1) (numbers_all u h.2.2)
    · exact numbers_both 38 (.inr rfl) t u (numbers_all t h.2.1) (numbers_all u h.2.2)
end Go.Proofs.Ytjjnckgdpdelkaa.P

-- impl.parse reads a term from the beginning of a text.
namespace Go.Proofs.Ytjjnckgdpdelkaa.P
open Go.RowKit Go.Proofs.YtjjnckgdpdelkaaW.PrintWords Go.Proofs.YtjjnckgdpdelkaaW.PrintLast Go.Proofs.YtjjnckgdpdelkaaW.PrintMore
set_option linter.unusedVariables false
set_option linter.unusedSimpArgs false

/-- What impl.parse does: nothing is left to say, or a term and the rest of the text. -/
def ParsePost (o : Option (Tm × List UInt8)) (w : World) (e : Ending) (w' : World) : Prop := match o with
  | none => e = .returned (.tuple #[.pointer none, .string ⟨#[]⟩]) ∧ Below w.heap.size w w'
  | some (t, r) => (∃ p L, e = .returned (.tuple #[.pointer p, .string L]) ∧ chrs L = r ∧ (∀ W', Kept w' W' (fun k => k < w.heap.size) → IT W' t p)) ∧ Below w.heap.size w w'
theorem chrs_tail {s : ByteArray} {c : UInt8} {r : List UInt8} (h : chrs s = c :: r) : chrs (s.extract 1 s.size) = r := by
  rw [chrs_extract, List.take_of_length_le (by rw [chrs_length]; exact Nat.le_refl _), h]; rfl
theorem get_chr {s : ByteArray} {i : Nat} (h : i < s.size) : s[i] = (chrs s)[i]'(by rw [chrs_length]; exact h) := rfl
theorem toList_ne {s : ByteArray} (h : 0 < s.size) : s.toList.isEmpty = false := by
  rw [ByteArray.toList_eq]
  cases hl : s.data.toList with
  | nil =>
    have := chrs_length s
    unfold chrs at this
    rw [hl] at this; simp at this; omega
  | cons a l => rfl
theorem bt_get {s : ByteArray} {c : UInt8} {r : List UInt8} (h : chrs s = c :: r) (hs : 0 < s.size) : s[0] = c := by
  show (chrs s)[0]'(by rw [chrs_length]; exact hs) = c
  simp only [h, List.getElem_cons_zero]

set_option maxHeartbeats 8000000 in
set_option maxRecDepth 100000 in
theorem parse_leaf (s : ByteArray) (hs : s.size ≤ 100) (c : UInt8) (r : List UInt8) (hc : chrs s = c :: r) (hL : isL c = true) (k : Nat) (w : World) :
    Calls Try.prog 43 #[.string s] w (ParsePost (some (.leaf c, r)) w) := by
  have hsz : 0 < s.size := by rw [← chrs_length, hc]; simp
  have h0 := bt_get hc hsz
  have hne := toList_ne hsz
  have HT := Aside0.mk (chrs_tail hc)
  clear hc
  have HK := Aside0.mk (fun (W' : World) (x : Int) (hW : Kept (w.alloc (.cells #[.int .u8 x, .slice none 0 0] 73)).drew W' (fun k => k < w.heap.size)) => (show W'.heap[w.heap.size]? = some (.cells #[.int .u8 x, .slice none 0 0] 73 (0, 0)) from blk_kept (blk_drew (blk_new w _)) hW (Nat.lt_irrefl _)))
  rcases isL_cases hL with rfl | rfl | rfl
  all_goals
    go_enter Try.func43, Try.ntmps43
    go_wp2_with fail
    go_region
    go_wp2_with fail
    go_ret2
    exact ⟨⟨_, _, rfl, HT.out, fun W' hW => ⟨w.heap.size, none, 0, rfl, HK.out W' _ hW⟩⟩, below_drew1 (below_alloc (Below.refl _ _) _)⟩

set_option maxHeartbeats 8000000 in
set_option maxRecDepth 100000 in
theorem parse_empty (s : ByteArray) (hs : chrs s = []) (w : World) :
    Calls Try.prog 43 #[.string s] w (ParsePost none w) := by
  have h0 : s.toList = [] := by rw [ByteArray.toList_eq]; exact hs
  go_enter Try.func43, Try.ntmps43
  go_wp2_with fail
  go_ret2
  exact ⟨rfl, Below.refl _ _⟩

set_option maxHeartbeats 8000000 in
set_option maxRecDepth 100000 in
theorem parse_other (s : ByteArray) (hs : s.size ≤ 100) (c : UInt8) (r : List UInt8) (hc : chrs s = c :: r) (h1 : isL c = false) (h2 : isO c = false) (h3 : c ≠ 40) (w : World) :
    Calls Try.prog 43 #[.string s] w (ParsePost none w) := by
  have hsz : 0 < s.size := by rw [← chrs_length, hc]; simp
  have h0 := bt_get hc hsz
  have hne := toList_ne hsz
  have hn : ¬ c.toNat = 48 ∧ ¬ c.toNat = 49 ∧ ¬ c.toNat = 97 ∧ ¬ c.toNat = 42 ∧ ¬ c.toNat = 40 ∧ ¬ (50 ≤ c.toNat ∧ c.toNat ≤ 53) := by
    have q : ∀ d : UInt8, c.toNat = d.toNat → c = d := fun d h => UInt8.toNat_inj.1 h
    refine ⟨fun h => ?_, fun h => ?_, fun h => ?_, fun h => ?_, fun h => h3 (q 40 h), fun h => ?_⟩
    · rw [q 48 h] at h1; cases h1
    · rw [q 49 h] at h1; cases h1
    · rw [q 97 h] at h1; cases h1
    · rw [q 42 h] at h2; cases h2
    · unfold isO at h2
      rw [Bool.or_eq_false_iff, Bool.and_eq_false_iff, decide_eq_false_iff_not, decide_eq_false_iff_not] at h2
      omega
  obtain ⟨n1, n2, n3, n4, n5, n6⟩ := hn
  have m1 : ((c.toNat : Int) == 48) = false := by rw [beq_eq_false_iff_ne]; omega
  have m2 : ((c.toNat : Int) == 49) = false := by rw [beq_eq_false_iff_ne]; omega
  have m3 : ((c.toNat : Int) == 97) = false := by rw [beq_eq_false_iff_ne]; omega
  have m4 : ((c.toNat : Int) == 42) = false := by rw [beq_eq_false_iff_ne]; omega
  have m5 : ((c.toNat : Int) == 40) = false := by rw [beq_eq_false_iff_ne]; omega
  have hin := in_f (c.toNat : Int) 50 53
  rw [decide_eq_false (by omega)] at hin
  have HI := fun w => Aside0.mk (impl_in.calls (c.toNat : Int) 50 53 false w hin)
  have hlt : c.toNat < 256 := c.toNat_lt
  clear hc h1 h2 h3 hin n1 n2 n3 n4 n5 n6
  go_enter Try.func43, Try.ntmps43
  go_wp2_with (go_at_call 30; refine (HI _).out.mono ?_; rintro e w1 ⟨rfl, ⟨nq, rfl⟩⟩)
  go_ret2
  exact ⟨rfl, pw_below_drewN (below_alloc (Below.refl _ _) _) _⟩
end Go.Proofs.Ytjjnckgdpdelkaa.P

-- impl.parse at a sign ahead of a term.
namespace Go.Proofs.Ytjjnckgdpdelkaa.P
open Go.RowKit Go.Proofs.YtjjnckgdpdelkaaW.PrintWords Go.Proofs.YtjjnckgdpdelkaaW.PrintLast Go.Proofs.YtjjnckgdpdelkaaW.PrintMore
set_option linter.unusedVariables false
set_option linter.unusedSimpArgs false

/-- Pointers, as elements of a row. -/
def kptr : Kd (Option Addr) := Kd.scalar Value.pointer (fun _ => rfl)
theorem infoPtr : (Try.prog.info? 49).map (fun i => (i.zero, i.size, i.bytes)) = some (some (.pointer none), 1, 8) := by kernel_rfl
theorem kptr_cell {xs : List (Option Addr)} {e base g cap : Nat} {ok : Nat → Prop} {W : World} (h : kptr.R e W base ok (.slice (some ⟨g, 0, none⟩) xs.length cap) xs) (i : Nat) (hi : i < xs.length) : W.cell? ⟨g, i, none⟩ = some (.pointer (xs.getD i none)) := by
  have := (Kd.R_cell (none : Option Addr) (h1 := fun _ => rfl) (enc := Value.pointer) h (i : Int) (by omega) (by omega)).1
  rw [Int.toNat_natCast] at this
  rw [this]; simp [rdOf]
/-- A term that is read: it stands whatever becomes of what was there before. -/
def PDone (w : World) (b : Nat) (tm : Tm) (wr : World) : Prop := (∀ W', Kept wr W' (fun k => k < w.heap.size) → IT W' tm (some ⟨b, 0, none⟩)) ∧ Below w.heap.size w wr

theorem pdone_one {w wr w2 w3 : World} {c : UInt8} {t : Tm} {b2 g1 n1 : Nat} {cells1 : Array Value} (HR : wr.heap[w.heap.size]? = some (.cells #[.int .u8 (c.toNat : Int), .slice none 0 0] 73 (0, 0))) (HW : Below w.heap.size w wr)
    (HIT : ∀ W', Kept w2 W' (fun k => k < wr.heap.size) → IT W' t (some ⟨b2, 0, none⟩)) (BR : w3.heap[w.heap.size]? = some (.cells #[.int .u8 (c.toNat : Int), .slice none 0 0] 73 (0, 0)))
    (RO : kptr.R 49 w3 w.heap.size (fun _ => True) (.slice (some ⟨g1, 0, none⟩) ([] ++ [some (⟨b2, 0, none⟩ : Addr)]).length n1) ([] ++ [some ⟨b2, 0, none⟩])) (RB : Below w.heap.size w w3) (RG : w2.grownBy w3 (Value.slice none 0 0).ownBlock) (RC : w3.heap[g1]? = some (.cells cells1 49 (0, 0))) :
    PDone w w.heap.size (.one c t) (w3.setCell ⟨w.heap.size, 1, none⟩ (.slice (some ⟨g1, 0, none⟩) 1 n1)) := by
  have hne : w.heap.size ≠ g1 := blk_ne BR RC (by decide)
  have hg1 : w.heap.size ≤ g1 := (Kd.R_base RO) g1 (by simp [Value.ownBlock])
  have hn1 : 1 ≤ n1 := (Kd.R_reads' RO).2.1
  have hc := kptr_cell RO 0 (by simp)
  have BE := blk_put BR 1 (.slice (some ⟨g1, 0, none⟩) 1 n1) rfl
  have CE : (w3.setCell ⟨w.heap.size, 1, none⟩ (.slice (some ⟨g1, 0, none⟩) 1 n1)).heap[g1]? = some (.cells cells1 49 (0, 0)) := blk_far RC (fun e => hne e.symm) _
  have K1 : Kept w2 (w3.setCell ⟨w.heap.size, 1, none⟩ (.slice (some ⟨g1, 0, none⟩) 1 n1)) (fun k => k < wr.heap.size) :=
    (Kept.of_grown RG (Kept.refl w2 _) (fun k e => by simp [Value.ownBlock] at e)).setCell (.inl (blk_lt HR)) _
  refine ⟨fun W' hW => ⟨w.heap.size, g1, n1, some ⟨b2, 0, none⟩, rfl, blk_kept BE hW (Nat.lt_irrefl _), hn1, ?_, HIT W' (K1.then_ hW (fun k hk => .inl (Nat.lt_of_lt_of_le hk HW.size)))⟩, below_set RB (Nat.le_refl _)⟩
  rw [blk_cell (blk_kept CE hW (by omega)) 0, ← blk_cell RC 0, hc]; rfl
/-- What a sign ahead of a term makes of what is read behind it. -/
def oneO (c : UInt8) : Option (Tm × List UInt8) → Option (Tm × List UInt8)
  | none => none
  | some (t, r) => some (.one c t, r)
/-- What holds between the rounds of a sign ahead of one term. -/
def OneRel (k : Nat) (r : List UInt8) (c : UInt8) (s1 : ByteArray) (w : World) (gg : Nat) (s6 s51 : Value) (w_ : World) : Prop :=
  (2 ≤ gg ∧ s51 = .int .i64 0 ∧ s6 = .string s1 ∧ Aside0 (w_.heap[w.heap.size]? = some (.cells #[.int .u8 (c.toNat : Int), .slice none 0 0] 73 (0, 0))) ∧ Aside0 (Below w.heap.size w w_)) ∨
  (s51 = .int .i64 1 ∧ ∃ t r' L, Aside0 (prs k r = some (t, r')) ∧ s6 = .string L ∧ Aside0 (chrs L = r') ∧ Aside0 (PDone w w.heap.size (.one c t) w_))
set_option maxHeartbeats 16000000 in
set_option maxRecDepth 100000 in
theorem parse_one (k : Nat) (s : ByteArray) (hs : s.size ≤ 100) (c : UInt8) (r : List UInt8) (hc : chrs s = c :: r) (hO : isO c = true)
    (IH : ∀ (s' : ByteArray) (w' : World), chrs s' = r → Calls Try.prog 43 #[.string s'] w' (ParsePost (prs k (chrs s')) w')) (w : World) :
    Calls Try.prog 43 #[.string s] w (ParsePost (oneO c (prs k r)) w) := by
  obtain ⟨O, hO9⟩ : ∃ O, oneO c (prs k r) = O := ⟨_, rfl⟩
  rw [hO9]
  have HO9 := Aside0.mk hO9
  clear hO9
  have hsz : 0 < s.size := by rw [← chrs_length, hc]; simp
  have h0 := bt_get hc hsz
  have hne := toList_ne hsz
  have HT := Aside0.mk (chrs_tail hc)
  have HI := fun w' => Aside0.mk (IH (s.extract 1 s.size) w' HT.out)
  rw [HT.out] at HI
  have hlt : c.toNat < 256 := c.toNat_lt
  have hin : impl_in.f (c.toNat : Int) 50 53 = some (decide (50 ≤ (c.toNat : Int) ∧ (c.toNat : Int) ≤ 53)) := in_f _ _ _
  have hmm : (((c.toNat : Int) == 48) = false ∧ ((c.toNat : Int) == 49) = false ∧ ((c.toNat : Int) == 97) = false) ∧ (((c.toNat : Int) == 42) = true ∨ (((c.toNat : Int) == 42) = false ∧ decide (50 ≤ (c.toNat : Int) ∧ (c.toNat : Int) ≤ 53) = true)) := by
    rcases isO_cases hO with rfl | ⟨h1, h2, h3⟩
    · exact ⟨⟨rfl, rfl, rfl⟩, .inl rfl⟩
    · refine ⟨⟨?_, ?_, ?_⟩, .inr ⟨?_, decide_eq_true (by omega)⟩⟩
      all_goals rw [beq_eq_false_iff_ne]; omega
  obtain ⟨⟨m1, m2, m3⟩, hm4⟩ := hmm
  clear IH hc hO
  rcases hm4 with m4 | ⟨m4, m5⟩
  · clear hin
    go_enter Try.func43, Try.ntmps43
    go_wp2_with fail
    go_loopg [6, 51] 2 (fun gg s6 s51 w_ => OneRel k r c (s.extract 1 s.size) w gg s6 s51 w_)
    case atStart => exact .inl ⟨by omega, rfl, rfl, ⟨blk_new w _⟩, ⟨below_alloc (Below.refl _ _) _⟩⟩
    case round =>
      rcases hrel with ⟨hgg, rfl, rfl, HR, HW⟩ | ⟨rfl, t, r', L, HP, rfl, HL, HD⟩
      · have hq0 : wr.cell? ⟨w.heap.size, 1, none⟩ = some (.slice none 0 0) := (blk_cell HR.out 1).trans rfl
        cases hp : prs k r with
        | none =>
          rw [hp] at HI
          have HPN := Aside0.mk hp
          clear hp hq0
          go_wp2_with (go_at_call 43; refine (HI _).out.mono ?_; rintro e w2 ⟨rfl, hb2⟩; have HB2 := Aside0.mk (below_step HW.out hb2); clear hb2)
          obtain rfl : O = none := by rw [← HO9.out, HPN.out]; rfl
          go_ret2
          exact ⟨rfl, HB2.out⟩
        | some x =>
          obtain ⟨t, r'⟩ := x
          rw [hp] at HI
          have HPS := Aside0.mk hp
          clear hp hq0
          go_wp2_with (first
            | (go_at_call 43; refine (HI _).out.mono ?_; rintro e w2 ⟨⟨p, L, rfl, hL, hIT⟩, hb2⟩; obtain ⟨b2, rfl, hlt2⟩ := (hIT w2 (Kept.refl _ _)).some; have HB2 := Aside0.mk (below_step HW.out hb2); have HR2 := Aside0.mk (blk_below HR.out hb2); have HIT := Aside0.mk hIT; have HLL := Aside0.mk hL; have hq1 : w2.cell? ⟨w.heap.size, 1, none⟩ = some (.slice none 0 0) := (blk_cell HR2.out 1).trans rfl; clear hb2 hIT hL hlt2)
            | ((with_reducible refine gate_builtin (b := .append) (xs := #[.tmp 65, .tmp 67]) rfl ?_); at_builtin; go_loud (refine Kd.R_append kptr (w0 := w) w.heap.size rfl (.tmp 65) (.tmp 67) 71 49 (.pointer none) 8 rfl Try.underlying71 infoPtr rfl (by decide) (by omega) (.slice none 0 0) [] (some ⟨b2, 0, none⟩) [.pointer (some ⟨b2, 0, none⟩)] (fun _ => True) (fun _ => False) rfl rfl ?aP (fun _ hk => hk.elim) ?aF (Kd.R_nil _ _ _ _ _) HB2.out ?aS ?aL ?_; (case aP => exact rfl); (case aF => exact fun _ _ => trivial); (case aS => exact HB2.out.size); (case aL => simp); intro v1 w3 ho hb hg hat; obtain ⟨g1, n1, hv1, hg1, hl1, hcs1⟩ := Kd.R_form ho (by simp); subst hv1; have hr1 := (Kd.R_reads' ho).2.1; have BR := Aside0.mk (blk_grown HR2.out hg (by simp [Value.ownBlock])); have hq3 : w3.cell? ⟨w.heap.size, 1, none⟩ = some (.slice none 0 0) := (blk_cell BR.out 1).trans rfl; have hz3 : w3.frozen? ⟨w.heap.size, 1, none⟩ = false := blk_frozen BR.out 1; have RO := Aside0.mk ho; have RB := Aside0.mk hb; have RG := Aside0.mk hg; have RL := Aside0.mk hr1; obtain ⟨cells1, hcells1⟩ := hcs1; have RC := Aside0.mk hcells1; have RG1 := Aside0.mk hg1; have hne1 := blk_ne BR.out RC.out (by decide); clear hcells1 ho hb hg hat hr1 hg1 hl1)))
          go_roundg 1
          case measure => omega
          case rel => exact .inr ⟨by first | rfl | (simp; done), t, r', L, HPS, rfl, HLL, ⟨pdone_one HR.out HW.out HIT.out BR.out RO.out RB.out RG.out RC.out⟩⟩
      · obtain rfl : O = some (.one c t, r') := by rw [← HO9.out, HP.out]; rfl
        go_wp2_with fail
        go_ret2
        exact ⟨⟨_, L, rfl, HL.out, HD.out.1⟩, HD.out.2⟩
  · rw [m5] at hin
    have HIN := fun w => Aside0.mk (impl_in.calls (c.toNat : Int) 50 53 true w hin)
    clear hin m5
    go_enter Try.func43, Try.ntmps43
    go_wp2_with (go_at_call 30; refine (HIN _).out.mono ?_; rintro e w1 ⟨rfl, ⟨nq, rfl⟩⟩)
    go_loopg [6, 51] 2 (fun gg s6 s51 w_ => OneRel k r c (s.extract 1 s.size) w gg s6 s51 w_)
    case atStart => exact .inl ⟨by omega, rfl, rfl, ⟨blk_drewN (blk_new w _) nq⟩, ⟨pw_below_drewN (below_alloc (Below.refl _ _) _) nq⟩⟩
    case round =>
      rcases hrel with ⟨hgg, rfl, rfl, HR, HW⟩ | ⟨rfl, t, r', L, HP, rfl, HL, HD⟩
      · have hq0 : wr.cell? ⟨w.heap.size, 1, none⟩ = some (.slice none 0 0) := (blk_cell HR.out 1).trans rfl
        cases hp : prs k r with
        | none =>
          rw [hp] at HI
          have HPN := Aside0.mk hp
          clear hp hq0
          go_wp2_with (go_at_call 43; refine (HI _).out.mono ?_; rintro e w2 ⟨rfl, hb2⟩; have HB2 := Aside0.mk (below_step HW.out hb2); clear hb2)
          obtain rfl : O = none := by rw [← HO9.out, HPN.out]; rfl
          go_ret2
          exact ⟨rfl, HB2.out⟩
        | some x =>
          obtain ⟨t, r'⟩ := x
          rw [hp] at HI
          have HPS := Aside0.mk hp
          clear hp hq0
          go_wp2_with (first
            | (go_at_call 43; refine (HI _).out.mono ?_; rintro e w2 ⟨⟨p, L, rfl, hL, hIT⟩, hb2⟩; obtain ⟨b2, rfl, hlt2⟩ := (hIT w2 (Kept.refl _ _)).some; have HB2 := Aside0.mk (below_step HW.out hb2); have HR2 := Aside0.mk (blk_below HR.out hb2); have HIT := Aside0.mk hIT; have HLL := Aside0.mk hL; have hq1 : w2.cell? ⟨w.heap.size, 1, none⟩ = some (.slice none 0 0) := (blk_cell HR2.out 1).trans rfl; clear hb2 hIT hL hlt2)
            | ((with_reducible refine gate_builtin (b := .append) (xs := #[.tmp 65, .tmp 67]) rfl ?_); at_builtin; go_loud (refine Kd.R_append kptr (w0 := w) w.heap.size rfl (.tmp 65) (.tmp 67) 71 49 (.pointer none) 8 rfl Try.underlying71 infoPtr rfl (by decide) (by omega) (.slice none 0 0) [] (some ⟨b2, 0, none⟩) [.pointer (some ⟨b2, 0, none⟩)] (fun _ => True) (fun _ => False) rfl rfl ?aP (fun _ hk => hk.elim) ?aF (Kd.R_nil _ _ _ _ _) HB2.out ?aS ?aL ?_; (case aP => exact rfl); (case aF => exact fun _ _ => trivial); (case aS => exact HB2.out.size); (case aL => simp); intro v1 w3 ho hb hg hat; obtain ⟨g1, n1, hv1, hg1, hl1, hcs1⟩ := Kd.R_form ho (by simp); subst hv1; have hr1 := (Kd.R_reads' ho).2.1; have BR := Aside0.mk (blk_grown HR2.out hg (by simp [Value.ownBlock])); have hq3 : w3.cell? ⟨w.heap.size, 1, none⟩ = some (.slice none 0 0) := (blk_cell BR.out 1).trans rfl; have hz3 : w3.frozen? ⟨w.heap.size, 1, none⟩ = false := blk_frozen BR.out 1; have RO := Aside0.mk ho; have RB := Aside0.mk hb; have RG := Aside0.mk hg; have RL := Aside0.mk hr1; obtain ⟨cells1, hcells1⟩ := hcs1; have RC := Aside0.mk hcells1; have RG1 := Aside0.mk hg1; have hne1 := blk_ne BR.out RC.out (by decide); clear hcells1 ho hb hg hat hr1 hg1 hl1)))
          go_roundg 1
          case measure => omega
          case rel => exact .inr ⟨by first | rfl | (simp; done), t, r', L, HPS, rfl, HLL, ⟨pdone_one HR.out HW.out HIT.out BR.out RO.out RB.out RG.out RC.out⟩⟩
      · obtain rfl : O = some (.one c t, r') := by rw [← HO9.out, HP.out]; rfl
        go_wp2_with fail
        go_ret2
        exact ⟨⟨_, L, rfl, HL.out, HD.out.1⟩, HD.out.2⟩
end Go.Proofs.Ytjjnckgdpdelkaa.P

-- Two terms between brackets: what stands when one, and when both, are read.
namespace Go.Proofs.Ytjjnckgdpdelkaa.P
open Go.RowKit Go.Proofs.YtjjnckgdpdelkaaW.PrintWords Go.Proofs.YtjjnckgdpdelkaaW.PrintLast Go.Proofs.YtjjnckgdpdelkaaW.PrintMore
set_option linter.unusedVariables false
set_option linter.unusedSimpArgs false

/-- What two terms between brackets come to. -/
def twoB (a : Tm) (d : UInt8) : Option (Tm × List UInt8) → Option (Tm × List UInt8)
  | none => none
  | some (_, []) => none
  | some (b, e :: r3) => if e = 41 then some (.two d a b, r3) else none
def twoO (P : List UInt8 → Option (Tm × List UInt8)) : Option (Tm × List UInt8) → Option (Tm × List UInt8)
  | none => none
  | some (_, []) => none
  | some (a, d :: r1) => if isT d = true then twoB a d (P r1) else none
theorem prs_leaf {k : Nat} {c : UInt8} {s : List UInt8} (h : isL c = true) : prs (k + 1) (c :: s) = some (.leaf c, s) := by rw [prs, if_pos h]
theorem prs_one {k : Nat} {c : UInt8} {s : List UInt8} (h : isO c = true) : prs (k + 1) (c :: s) = oneO c (prs k s) := by
  rw [prs, if_neg (by rw [isO_notL h]; decide), if_pos h]
  cases prs k s with
  | none => rfl
  | some x => obtain ⟨t, r⟩ := x; rfl
theorem prs_two {k : Nat} {s : List UInt8} : prs (k + 1) (40 :: s) = twoO (prs k) (prs k s) := by
  rw [prs, if_neg (by decide), if_neg (by decide), if_pos rfl]
  cases prs k s with
  | none => rfl
  | some x =>
    obtain ⟨a, r⟩ := x
    cases r with
    | nil => rfl
    | cons d r1 =>
      show (if isT d = true then _ else none) = (if isT d = true then _ else none)
      by_cases hT : isT d = true
      · rw [if_pos hT, if_pos hT]
        cases prs k r1 with
        | none => rfl
        | some y =>
          obtain ⟨b, r2⟩ := y
          cases r2 with
          | nil => rfl
          | cons e r3 => rfl
      · rw [if_neg hT, if_neg hT]
theorem prs_other {k : Nat} {c : UInt8} {s : List UInt8} (h1 : isL c = false) (h2 : isO c = false) (h3 : c ≠ 40) : prs (k + 1) (c :: s) = none := by
  rw [prs, if_neg (by rw [h1]; decide), if_neg (by rw [h2]; decide), if_neg h3]
theorem con_plus {a1 : ByteArray} {d : UInt8} (h : chrs a1 = [d]) : strings_Contains.f ⟨#[43, 46, 38]⟩ a1 = some (isT d) := by
  unfold strings_Contains.f strings_Index.f stringslite_Index.f
  rw [if_pos (by rw [← chrs_length, h]; rfl), h, Option.bind_some, Option.bind_some]
  show some (decide ((if [43, 46, 38].findIdx (· == d) < 3 then (([43, 46, 38].findIdx (· == d) : Nat) : Int) else -1) ≥ 0)) = some (isT d)
  by_cases h1 : d = 43
  · subst h1; rfl
  · by_cases h2 : d = 46
    · subst h2; rfl
    · by_cases h3 : d = 38
      · subst h3; rfl
      · have e1 : ((43 : UInt8) == d) = false := by rw [beq_eq_false_iff_ne]; exact fun h => h1 h.symm
        have e2 : ((46 : UInt8) == d) = false := by rw [beq_eq_false_iff_ne]; exact fun h => h2 h.symm
        have e3 : ((38 : UInt8) == d) = false := by rw [beq_eq_false_iff_ne]; exact fun h => h3 h.symm
        have e4 : isT d = false := by unfold isT; simp [h1, h2, h3]
        rw [e4]
        simp [List.findIdx_cons, e1, e2, e3]
theorem con_shut {a1 : ByteArray} {d : UInt8} (h : chrs a1 = [d]) : strings_Contains.f ⟨#[41]⟩ a1 = some (d == 41) := by
  unfold strings_Contains.f strings_Index.f stringslite_Index.f
  rw [if_pos (by rw [← chrs_length, h]; rfl), h, Option.bind_some, Option.bind_some]
  show some (decide ((if [41].findIdx (· == d) < 1 then (([41].findIdx (· == d) : Nat) : Int) else -1) ≥ 0)) = some (d == 41)
  by_cases h1 : d = 41
  · subst h1; rfl
  · have e1 : ((41 : UInt8) == d) = false := by rw [beq_eq_false_iff_ne]; exact fun h => h1 h.symm
    have e2 : (d == 41) = false := by rw [beq_eq_false_iff_ne]; exact h1
    rw [e2]
    simp [List.findIdx_cons, e1]
theorem chrs_head {s : ByteArray} {c : UInt8} {r : List UInt8} (h : chrs s = c :: r) : chrs (s.extract 0 1) = [c] := by
  rw [chrs_extract, h]; rfl
/-- One term is read, and it stands whatever becomes of the record, of the row, and of what was there before. -/
def TwoMid (w : World) (d : UInt8) (a : Tm) (wr : World) : Prop := ∃ g1 n1 pa, wr.heap[w.heap.size]? = some (.cells #[.int .u8 (d.toNat : Int), .slice (some ⟨g1, 0, none⟩) 1 n1] 73 (0, 0)) ∧
  kptr.R 49 wr w.heap.size (fun _ => True) (.slice (some ⟨g1, 0, none⟩) [pa].length n1) [pa] ∧ (∀ W', Kept wr W' (fun k => k < w.heap.size ∨ k = w.heap.size ∨ k = g1) → IT W' a pa) ∧ Below w.heap.size w wr
theorem TwoMid.below {w wr w' : World} {d : UInt8} {a : Tm} (h : TwoMid w d a wr) (hb : Below wr.heap.size wr w') : TwoMid w d a w' := by
  obtain ⟨g1, n1, pa, h1, h2, h3, h4⟩ := h
  exact ⟨g1, n1, pa, blk_below h1 hb, Kd.R_below h2 hb, fun W' hW => h3 W' ((Kept.of_below hb _).then_ hW (fun k hk => .inl hk)), below_step h4 hb⟩
theorem TwoMid.sign {w wr : World} {c d : UInt8} {a : Tm} (h : TwoMid w c a wr) : TwoMid w d a (wr.setCell ⟨w.heap.size, 0, none⟩ (.int .u8 (d.toNat : Int))) := by
  obtain ⟨g1, n1, pa, h1, h2, h3, h4⟩ := h
  exact ⟨g1, n1, pa, blk_put h1 0 _ rfl, Kd.R_set h2 h1 (fun q hq => by simp [kptr, Kd.scalar] at hq; omega) 0 _, fun W' hW => h3 W' (((Kept.refl wr _).setCell (.inl (.inr (.inl rfl))) _).then_ hW (fun k hk => .inl hk)), below_set h4 (Nat.le_refl _)⟩
theorem PDone.below {w wr w' : World} {b : Nat} {tm : Tm} (h : PDone w b tm wr) (hb : Below wr.heap.size wr w') : PDone w b tm w' :=
  ⟨fun W' hW => h.1 W' ((Kept.of_below hb _).then_ hW (fun k hk => .inl hk)), below_step h.2 hb⟩
theorem twoMid_start {w wr w2 w3 : World} {c : UInt8} {t : Tm} {b2 g1 n1 : Nat} {cells1 : Array Value} (HR : wr.heap[w.heap.size]? = some (.cells #[.int .u8 (c.toNat : Int), .slice none 0 0] 73 (0, 0))) (HW : Below w.heap.size w wr)
    (HIT : ∀ W', Kept w2 W' (fun k => k < wr.heap.size) → IT W' t (some ⟨b2, 0, none⟩)) (BR : w3.heap[w.heap.size]? = some (.cells #[.int .u8 (c.toNat : Int), .slice none 0 0] 73 (0, 0)))
    (RO : kptr.R 49 w3 w.heap.size (fun _ => True) (.slice (some ⟨g1, 0, none⟩) ([] ++ [some (⟨b2, 0, none⟩ : Addr)]).length n1) ([] ++ [some ⟨b2, 0, none⟩])) (RB : Below w.heap.size w w3) (RG : w2.grownBy w3 (Value.slice none 0 0).ownBlock) (RC : w3.heap[g1]? = some (.cells cells1 49 (0, 0))) (h2 : w2.heap.size ≤ g1) :
    TwoMid w c t (w3.setCell ⟨w.heap.size, 1, none⟩ (.slice (some ⟨g1, 0, none⟩) 1 n1)) := by
  have BE := blk_put BR 1 (.slice (some ⟨g1, 0, none⟩) 1 n1) rfl
  have K1 : Kept w2 (w3.setCell ⟨w.heap.size, 1, none⟩ (.slice (some ⟨g1, 0, none⟩) 1 n1)) (fun k => k < wr.heap.size) :=
    (Kept.of_grown RG (Kept.refl w2 _) (fun k e => by simp [Value.ownBlock] at e)).setCell (.inl (blk_lt HR)) _
  refine ⟨g1, n1, some ⟨b2, 0, none⟩, BE, Kd.R_set RO BR (fun q hq => by simp [kptr, Kd.scalar] at hq; omega) 1 _, fun W' hW => HIT W' (K1.then_ hW (fun k hk => ?_)), below_set RB (Nat.le_refl _)⟩
  rcases hk with hk | hk | hk
  · exact .inl (Nat.lt_of_lt_of_le hk HW.size)
  · exact .inl (by rw [hk]; exact blk_lt HR)
  · exact .inr (by rw [hk]; exact h2)
theorem pdone_two {w wr w2 w3 : World} {d : UInt8} {a b : Tm} {g1 n1 g3 n3 : Nat} {pa pb : Option Addr} (h1 : wr.heap[w.heap.size]? = some (.cells #[.int .u8 (d.toNat : Int), .slice (some ⟨g1, 0, none⟩) 1 n1] 73 (0, 0)))
    (h2 : kptr.R 49 wr w.heap.size (fun _ => True) (.slice (some ⟨g1, 0, none⟩) [pa].length n1) [pa]) (h3 : ∀ W', Kept wr W' (fun k => k < w.heap.size ∨ k = w.heap.size ∨ k = g1) → IT W' a pa) (h4 : Below w.heap.size w wr)
    (hb2 : Below wr.heap.size wr w2) (HIT : ∀ W', Kept w2 W' (fun k => k < wr.heap.size) → IT W' b pb)
    (RO : kptr.R 49 w3 w.heap.size (fun _ => True) (.slice (some ⟨g3, 0, none⟩) ([pa] ++ [pb]).length n3) ([pa] ++ [pb])) (RB : Below w.heap.size w w3) (RG : w2.grownBy w3 (Value.slice (some ⟨g1, 0, none⟩) 1 n1).ownBlock) :
    PDone w w.heap.size (.two d a b) (w3.setCell ⟨w.heap.size, 1, none⟩ (.slice (some ⟨g3, 0, none⟩) 2 n3)) := by
  obtain ⟨c1, hc1⟩ := Kd.R_typed h2 g1 rfl
  have hne1 : w.heap.size ≠ g1 := blk_ne h1 hc1 (by decide)
  have B2 := blk_below h1 hb2
  have B3 := blk_grown B2 RG (by simp [Value.ownBlock, hne1])
  obtain ⟨c3, hc3⟩ := Kd.R_typed RO g3 rfl
  have hne3 : w.heap.size ≠ g3 := blk_ne B3 hc3 (by decide)
  have hg3 : w.heap.size ≤ g3 := (Kd.R_base RO) g3 (by simp [Value.ownBlock])
  have hn3 : 2 ≤ n3 := (Kd.R_reads' RO).2.1
  have p0 := kptr_cell RO 0 (by simp)
  have p1 := kptr_cell RO 1 (by simp)
  have BE := blk_put B3 1 (.slice (some ⟨g3, 0, none⟩) 2 n3) rfl
  have CE : (w3.setCell ⟨w.heap.size, 1, none⟩ (.slice (some ⟨g3, 0, none⟩) 2 n3)).heap[g3]? = some (.cells c3 49 (0, 0)) := blk_far hc3 (fun e => hne3 e.symm) _
  have KA : Kept wr (w3.setCell ⟨w.heap.size, 1, none⟩ (.slice (some ⟨g3, 0, none⟩) 2 n3)) (fun k => k < w.heap.size ∨ k = w.heap.size ∨ k = g1) :=
    (Kept.of_grown RG (Kept.of_below hb2 _) (fun k e => .inl (.inr (.inr (by simpa [Value.ownBlock] using e.symm))))).setCell (.inl (.inr (.inl rfl))) _
  have KB : Kept w2 (w3.setCell ⟨w.heap.size, 1, none⟩ (.slice (some ⟨g3, 0, none⟩) 2 n3)) (fun k => k < wr.heap.size) :=
    (Kept.of_grown RG (Kept.refl w2 _) (fun k e => .inl (by rw [show k = g1 by simpa [Value.ownBlock] using e.symm]; exact blk_lt hc1))).setCell (.inl (blk_lt h1)) _
  refine ⟨fun W' hW => ⟨w.heap.size, g3, n3, pa, pb, rfl, blk_kept BE hW (Nat.lt_irrefl _), hn3, ?_, ?_, h3 W' (KA.then_ hW (fun k hk => .inl (.inl hk))), HIT W' (KB.then_ hW (fun k hk => .inl (Nat.lt_of_lt_of_le hk h4.size)))⟩, below_set RB (Nat.le_refl _)⟩
  · rw [blk_cell (blk_kept CE hW (by omega)) 0, ← blk_cell hc3 0, p0]; rfl
  · rw [blk_cell (blk_kept CE hW (by omega)) 1, ← blk_cell hc3 1, p1]; rfl
end Go.Proofs.Ytjjnckgdpdelkaa.P

-- impl.parse at a bracket: two terms and a sign between.
namespace Go.Proofs.Ytjjnckgdpdelkaa.P
open Go.RowKit Go.Proofs.YtjjnckgdpdelkaaW.PrintWords Go.Proofs.YtjjnckgdpdelkaaW.PrintLast Go.Proofs.YtjjnckgdpdelkaaW.PrintMore
set_option linter.unusedVariables false
set_option linter.unusedSimpArgs false

/-- What holds between the rounds of two terms. -/
def TwoRel (k : Nat) (r : List UInt8) (s1 : ByteArray) (w : World) (gg : Nat) (s6 s51 : Value) (w_ : World) : Prop :=
  (3 ≤ gg ∧ s51 = .int .i64 0 ∧ s6 = .string s1 ∧ Aside0 (w_.heap[w.heap.size]? = some (.cells #[.int .u8 ((40 : UInt8).toNat : Int), .slice none 0 0] 73 (0, 0))) ∧ Aside0 (Below w.heap.size w w_)) ∨
  ((2 ≤ gg ∧ s51 = .int .i64 1 ∧ ∃ a d r1 L, Aside0 (prs k r = some (a, d :: r1) ∧ isT d = true) ∧ s6 = .string L ∧ Aside0 (chrs L = r1) ∧ Aside0 (TwoMid w d a w_)) ∨
  (s51 = .int .i64 2 ∧ ∃ tm r3 L, Aside0 (twoO (prs k) (prs k r) = some (tm, r3)) ∧ s6 = .string L ∧ Aside0 (chrs L = r3) ∧ Aside0 (PDone w w.heap.size tm w_)))

set_option maxHeartbeats 32000000 in
set_option maxRecDepth 100000 in
theorem parse_two (k : Nat) (s : ByteArray) (hs : s.size ≤ 100) (r : List UInt8) (hc : chrs s = 40 :: r)
    (IH : ∀ (s' : ByteArray) (w' : World), s'.size ≤ r.length → Calls Try.prog 43 #[.string s'] w' (ParsePost (prs k (chrs s')) w')) (w : World) :
    Calls Try.prog 43 #[.string s] w (ParsePost (twoO (prs k) (prs k r)) w) := by
  obtain ⟨O, hO9⟩ : ∃ O, twoO (prs k) (prs k r) = O := ⟨_, rfl⟩
  rw [hO9]
  have HO9 := Aside0.mk hO9
  clear hO9
  have hsz : 0 < s.size := by rw [← chrs_length, hc]; simp
  have h0 := bt_get hc hsz
  have hne := toList_ne hsz
  have HT := Aside0.mk (chrs_tail hc)
  have HI := fun w' => Aside0.mk (IH (s.extract 1 s.size) w' (by rw [← chrs_length, HT.out]; exact Nat.le_refl _))
  rw [HT.out] at HI
  have HIA := Aside0.mk IH
  have HS := Aside0.mk hs
  clear IH hc hs
  go_enter Try.func43, Try.ntmps43
  go_wp2_with (go_at_call 30; refine (impl_in.calls 40 50 53 false _ rfl).mono ?_; rintro e w1 ⟨rfl, ⟨nq, rfl⟩⟩)
  go_loopg [6, 51] 3 (fun gg s6 s51 w_ => TwoRel k r (s.extract 1 s.size) w gg s6 s51 w_)
  case atStart => exact .inl ⟨by omega, rfl, rfl, ⟨blk_drewN (blk_new w _) nq⟩, ⟨pw_below_drewN (below_alloc (Below.refl _ _) _) nq⟩⟩
  case round =>
    rcases hrel with ⟨hgg, rfl, rfl, HR, HW⟩ | ⟨hgg, rfl, a, d, r1, L, HP, rfl, HL, HM⟩ | ⟨rfl, tm, r3, L, HP, rfl, HL, HD⟩
    · have hq0 : wr.cell? ⟨w.heap.size, 1, none⟩ = some (.slice none 0 0) := (blk_cell HR.out 1).trans rfl
      have hq9 : wr.cell? ⟨w.heap.size, 0, none⟩ = some (.int .u8 40) := (blk_cell HR.out 0).trans rfl
      clear HIA
      cases hp : prs k r with
      | none =>
        rw [hp] at HI
        have HPN := Aside0.mk hp
        clear hp hq0
        go_wp2_with (go_at_call 43; refine (HI _).out.mono ?_; rintro e w2 ⟨rfl, hb2⟩; have HB2 := Aside0.mk (below_step HW.out hb2); clear hb2)
        obtain rfl : O = none := by rw [← HO9.out, HPN.out]; rfl
        go_ret2
        exact ⟨rfl, HB2.out⟩
      | some x =>
        obtain ⟨a, r'⟩ := x
        rw [hp] at HI
        have HPS := Aside0.mk hp
        clear hp hq0
        cases r' with
        | nil =>
          go_wp2_with (first
            | (go_at_call 43; refine (HI _).out.mono ?_; rintro e w2 ⟨⟨p, L, rfl, hL, hIT⟩, hb2⟩; obtain ⟨b2, rfl, hlt2⟩ := (hIT w2 (Kept.refl _ _)).some; have HB2 := Aside0.mk (below_step HW.out hb2); have HR2 := Aside0.mk (blk_below HR.out hb2); have HIT := Aside0.mk hIT; have hq1 : w2.cell? ⟨w.heap.size, 1, none⟩ = some (.slice none 0 0) := (blk_cell HR2.out 1).trans rfl; have hLe : L.toList = [] := (ByteArray.toList_eq L).trans hL; have hLs : ¬ (1 ≤ L.size) := (by rw [← chrs_length, hL]; simp); clear hb2 hIT hL hlt2)
            | ((with_reducible refine gate_builtin (b := .append) (xs := #[.tmp 65, .tmp 67]) rfl ?_); at_builtin; (refine Kd.R_append kptr (w0 := w) w.heap.size rfl (.tmp 65) (.tmp 67) 71 49 (.pointer none) 8 rfl Try.underlying71 infoPtr rfl (by decide) (by omega) (.slice none 0 0) [] (some ⟨b2, 0, none⟩) [.pointer (some ⟨b2, 0, none⟩)] (fun _ => True) (fun _ => False) rfl rfl ?aP (fun _ hk => hk.elim) ?aF (Kd.R_nil _ _ _ _ _) HB2.out ?aS ?aL ?_; (case aP => exact rfl); (case aF => exact fun _ _ => trivial); (case aS => exact HB2.out.size); (case aL => simp); intro v1 w3 ho hb hg hat; obtain ⟨g1, n1, hv1, hg1, hl1, ⟨cells1, hcells1⟩⟩ := Kd.R_form ho (by simp); subst hv1; have BR := Aside0.mk (blk_grown HR2.out hg (by simp [Value.ownBlock])); have hq3 : w3.cell? ⟨w.heap.size, 1, none⟩ = some (.slice none 0 0) := (blk_cell BR.out 1).trans rfl; have hz3 : w3.frozen? ⟨w.heap.size, 1, none⟩ = false := blk_frozen BR.out 1; have hat2 : w2.heap.size ≤ g1 := (by rcases hat with h9 | ⟨b9, h9, h8⟩; (· simp [Value.ownBlock] at h9); (· rw [show g1 = b9 by simpa [Value.ownBlock] using h9]; exact h8)); have TM := Aside0.mk (twoMid_start HR.out HW.out HIT.out BR.out ho hb hg hcells1 hat2); clear hcells1 ho hb hg hat hat2 hg1 hl1)))
          obtain rfl : O = none := by rw [← HO9.out, HPS.out]; rfl
          go_ret2
          exact ⟨rfl, by have h9 := TM.out; obtain ⟨_, _, _, _, _, _, h8⟩ := h9; first | exact below_alloc h8 _ | exact h8⟩
        | cons d r1 =>
          cases hT : isT d with
          | false =>
            have HTT := Aside0.mk hT
            go_wp2_with (first
              | (go_at_call 43; refine (HI _).out.mono ?_; rintro e w2 ⟨⟨p, L, rfl, hL, hIT⟩, hb2⟩; obtain ⟨b2, rfl, hlt2⟩ := (hIT w2 (Kept.refl _ _)).some; have HB2 := Aside0.mk (below_step HW.out hb2); have HR2 := Aside0.mk (blk_below HR.out hb2); have HIT := Aside0.mk hIT; have hq1 : w2.cell? ⟨w.heap.size, 1, none⟩ = some (.slice none 0 0) := (blk_cell HR2.out 1).trans rfl; have hLs : 1 ≤ L.size := (by rw [← chrs_length, hL]; simp); have hLn := toList_ne hLs; have hLc := bt_get hL hLs; have HLT := Aside0.mk (chrs_tail hL); have HCON := fun w' => Aside0.mk (strings_Contains.calls _ _ _ w' (con_plus (chrs_head hL))); rw [hT] at HCON; clear hT; clear hb2 hIT hL hlt2)
              | ((with_reducible refine gate_builtin (b := .append) (xs := #[.tmp 65, .tmp 67]) rfl ?_); at_builtin; (refine Kd.R_append kptr (w0 := w) w.heap.size rfl (.tmp 65) (.tmp 67) 71 49 (.pointer none) 8 rfl Try.underlying71 infoPtr rfl (by decide) (by omega) (.slice none 0 0) [] (some ⟨b2, 0, none⟩) [.pointer (some ⟨b2, 0, none⟩)] (fun _ => True) (fun _ => False) rfl rfl ?aP (fun _ hk => hk.elim) ?aF (Kd.R_nil _ _ _ _ _) HB2.out ?aS ?aL ?_; (case aP => exact rfl); (case aF => exact fun _ _ => trivial); (case aS => exact HB2.out.size); (case aL => simp); intro v1 w3 ho hb hg hat; obtain ⟨g1, n1, hv1, hg1, hl1, ⟨cells1, hcells1⟩⟩ := Kd.R_form ho (by simp); subst hv1; have BR := Aside0.mk (blk_grown HR2.out hg (by simp [Value.ownBlock])); have hq3 : w3.cell? ⟨w.heap.size, 1, none⟩ = some (.slice none 0 0) := (blk_cell BR.out 1).trans rfl; have hz3 : w3.frozen? ⟨w.heap.size, 1, none⟩ = false := blk_frozen BR.out 1; have hat2 : w2.heap.size ≤ g1 := (by rcases hat with h9 | ⟨b9, h9, h8⟩; (· simp [Value.ownBlock] at h9); (· rw [show g1 = b9 by simpa [Value.ownBlock] using h9]; exact h8)); have TM := Aside0.mk (twoMid_start HR.out HW.out HIT.out BR.out ho hb hg hcells1 hat2); clear hcells1 ho hb hg hat hat2 hg1 hl1))
              | (go_at_call 53; refine (HCON _).out.mono ?_; rintro e w5 ⟨rfl, hd⟩; have TM5 := Aside0.mk (TwoMid.below (TwoMid.below TM.out (below_alloc (Below.refl _ _) _)) (drawn0_below hd)); obtain ⟨g5, n5, p5, q5, _, _, _⟩ := TM5.out; have hc5 : w5.cell? ⟨w.heap.size, 0, none⟩ = some (.int .u8 ((40 : UInt8).toNat : Int)) := (blk_cell q5 0).trans rfl; have hz5 : w5.frozen? ⟨w.heap.size, 0, none⟩ = false := blk_frozen q5 0; clear hd q5))
            obtain rfl : O = none := by rw [← HO9.out, HPS.out]; show (if isT d = true then _ else none) = none; rw [HTT.out, if_neg (by decide)]
            go_ret2
            exact ⟨rfl, by have h9 := TM5.out; obtain ⟨_, _, _, _, _, _, h8⟩ := h9; exact h8⟩
          | true =>
            have HTT := Aside0.mk hT
            go_wp2_with (first
              | (go_at_call 43; refine (HI _).out.mono ?_; rintro e w2 ⟨⟨p, L, rfl, hL, hIT⟩, hb2⟩; obtain ⟨b2, rfl, hlt2⟩ := (hIT w2 (Kept.refl _ _)).some; have HB2 := Aside0.mk (below_step HW.out hb2); have HR2 := Aside0.mk (blk_below HR.out hb2); have HIT := Aside0.mk hIT; have hq1 : w2.cell? ⟨w.heap.size, 1, none⟩ = some (.slice none 0 0) := (blk_cell HR2.out 1).trans rfl; have hLs : 1 ≤ L.size := (by rw [← chrs_length, hL]; simp); have hLn := toList_ne hLs; have hLc := bt_get hL hLs; have HLT := Aside0.mk (chrs_tail hL); have HCON := fun w' => Aside0.mk (strings_Contains.calls _ _ _ w' (con_plus (chrs_head hL))); rw [hT] at HCON; clear hT; clear hb2 hIT hL hlt2)
              | ((with_reducible refine gate_builtin (b := .append) (xs := #[.tmp 65, .tmp 67]) rfl ?_); at_builtin; (refine Kd.R_append kptr (w0 := w) w.heap.size rfl (.tmp 65) (.tmp 67) 71 49 (.pointer none) 8 rfl Try.underlying71 infoPtr rfl (by decide) (by omega) (.slice none 0 0) [] (some ⟨b2, 0, none⟩) [.pointer (some ⟨b2, 0, none⟩)] (fun _ => True) (fun _ => False) rfl rfl ?aP (fun _ hk => hk.elim) ?aF (Kd.R_nil _ _ _ _ _) HB2.out ?aS ?aL ?_; (case aP => exact rfl); (case aF => exact fun _ _ => trivial); (case aS => exact HB2.out.size); (case aL => simp); intro v1 w3 ho hb hg hat; obtain ⟨g1, n1, hv1, hg1, hl1, ⟨cells1, hcells1⟩⟩ := Kd.R_form ho (by simp); subst hv1; have BR := Aside0.mk (blk_grown HR2.out hg (by simp [Value.ownBlock])); have hq3 : w3.cell? ⟨w.heap.size, 1, none⟩ = some (.slice none 0 0) := (blk_cell BR.out 1).trans rfl; have hz3 : w3.frozen? ⟨w.heap.size, 1, none⟩ = false := blk_frozen BR.out 1; have hat2 : w2.heap.size ≤ g1 := (by rcases hat with h9 | ⟨b9, h9, h8⟩; (· simp [Value.ownBlock] at h9); (· rw [show g1 = b9 by simpa [Value.ownBlock] using h9]; exact h8)); have TM := Aside0.mk (twoMid_start HR.out HW.out HIT.out BR.out ho hb hg hcells1 hat2); clear hcells1 ho hb hg hat hat2 hg1 hl1))
              | (go_at_call 53; refine (HCON _).out.mono ?_; rintro e w5 ⟨rfl, hd⟩; have TM5 := Aside0.mk (TwoMid.below (TwoMid.below TM.out (below_alloc (Below.refl _ _) _)) (drawn0_below hd)); obtain ⟨g5, n5, p5, q5, _, _, _⟩ := TM5.out; have hc5 : w5.cell? ⟨w.heap.size, 0, none⟩ = some (.int .u8 ((40 : UInt8).toNat : Int)) := (blk_cell q5 0).trans rfl; have hz5 : w5.frozen? ⟨w.heap.size, 0, none⟩ = false := blk_frozen q5 0; clear hd q5))
            go_roundg 2
            case measure => omega
            case rel => exact .inr (.inl ⟨by omega, by first | rfl | (simp; done), a, d, r1, _, ⟨HPS.out, HTT.out⟩, rfl, HLT, ⟨TM5.out.sign⟩⟩)
    · obtain ⟨HPa, HTd⟩ := HP.out
      have hlr : L.size ≤ r.length := by
        rw [← chrs_length, HL.out]
        have := prs_len HPa
        simp at this; omega
      have HI1 := fun w' => Aside0.mk (HIA.out L w' hlr)
      rw [HL.out] at HI1
      have HPS := Aside0.mk HPa
      have HTT := Aside0.mk HTd
      obtain ⟨g1, n1, pa, m1, m2, m3, m4⟩ := HM.out
      have M1 := Aside0.mk m1
      have M2 := Aside0.mk m2
      have M3 := Aside0.mk m3
      have M4 := Aside0.mk m4
      obtain ⟨cg, hcg⟩ := Kd.R_typed m2 g1 rfl
      have hneg : ¬ (w.heap.size = g1) := blk_ne m1 hcg (by decide)
      have hq0 : wr.cell? ⟨w.heap.size, 1, none⟩ = some (.slice (some ⟨g1, 0, none⟩) 1 n1) := (blk_cell m1 1).trans rfl
      clear HIA HI HPa HTd hlr m1 m2 m3 m4 hcg
      cases hp : prs k r1 with
      | none =>
        rw [hp] at HI1
        have HPN := Aside0.mk hp
        clear hp hq0
        go_wp2_with (go_at_call 43; refine (HI1 _).out.mono ?_; rintro e w2 ⟨rfl, hb2⟩; have HB2 := Aside0.mk (below_step M4.out hb2); clear hb2)
        obtain rfl : O = none := by rw [← HO9.out, HPS.out]; show (if isT d = true then twoB a d (prs k r1) else none) = none; rw [if_pos HTT.out, HPN.out]; rfl
        go_ret2
        exact ⟨rfl, HB2.out⟩
      | some x =>
        obtain ⟨b, r'⟩ := x
        rw [hp] at HI1
        have HPB := Aside0.mk hp
        clear hp hq0
        cases r' with
        | nil =>
          go_wp2_with (first
            | (go_at_call 43; refine (HI1 _).out.mono ?_; rintro e w2 ⟨⟨p, L2, rfl, hL2, hIT⟩, hb2⟩; obtain ⟨b2, rfl, hlt2⟩ := (hIT w2 (Kept.refl _ _)).some; have HB2 := Aside0.mk (below_step M4.out hb2); have HR2 := Aside0.mk (blk_below M1.out hb2); have RO2 := Aside0.mk (Kd.R_below M2.out hb2); have HIT := Aside0.mk hIT; have HBB := Aside0.mk hb2; have hq1 : w2.cell? ⟨w.heap.size, 1, none⟩ = some (.slice (some ⟨g1, 0, none⟩) 1 n1) := (blk_cell HR2.out 1).trans rfl; have hLe2 : L2.toList = [] := (ByteArray.toList_eq L2).trans hL2; have hLs2 : ¬ (1 ≤ L2.size) := (by rw [← chrs_length, hL2]; simp); clear hb2 hIT hL2 hlt2)
            | ((with_reducible refine gate_builtin (b := .append) (xs := #[.tmp 65, .tmp 67]) rfl ?_); at_builtin; (refine Kd.R_append kptr (w0 := w) w.heap.size rfl (.tmp 65) (.tmp 67) 71 49 (.pointer none) 8 rfl Try.underlying71 infoPtr rfl (by decide) (by omega) (.slice (some ⟨g1, 0, none⟩) 1 n1) [pa] (some ⟨b2, 0, none⟩) [.pointer (some ⟨b2, 0, none⟩)] (fun _ => True) (fun _ => False) rfl rfl ?aP (fun _ hk => hk.elim) ?aF RO2.out HB2.out ?aS ?aL ?_; (case aP => exact rfl); (case aF => exact fun _ _ => trivial); (case aS => exact HB2.out.size); (case aL => simp); intro v1 w3 ho hb hg hat; obtain ⟨g3, n3, hv1, hg1, hl1, ⟨cells1, hcells1⟩⟩ := Kd.R_form ho (by simp); subst hv1; have BR := Aside0.mk (blk_grown HR2.out hg (by simp [Value.ownBlock, hneg])); have hq3 : w3.cell? ⟨w.heap.size, 1, none⟩ = some (.slice (some ⟨g1, 0, none⟩) 1 n1) := (blk_cell BR.out 1).trans rfl; have hz3 : w3.frozen? ⟨w.heap.size, 1, none⟩ = false := blk_frozen BR.out 1; have PD := Aside0.mk (pdone_two M1.out M2.out M3.out M4.out HBB.out HIT.out ho hb hg); clear hcells1 ho hb hg hat hg1 hl1)))
          obtain rfl : O = none := by rw [← HO9.out, HPS.out]; show (if isT d = true then twoB a d (prs k r1) else none) = none; rw [if_pos HTT.out, HPB.out]; rfl
          go_ret2
          exact ⟨rfl, by first | exact below_alloc PD.out.2 _ | exact PD.out.2⟩
        | cons e41 r3 =>
          by_cases h41 : e41 = 41
          · have HEE := Aside0.mk h41
            go_wp2_with (first
              | (go_at_call 43; refine (HI1 _).out.mono ?_; rintro e w2 ⟨⟨p, L2, rfl, hL2, hIT⟩, hb2⟩; obtain ⟨b2, rfl, hlt2⟩ := (hIT w2 (Kept.refl _ _)).some; have HB2 := Aside0.mk (below_step M4.out hb2); have HR2 := Aside0.mk (blk_below M1.out hb2); have RO2 := Aside0.mk (Kd.R_below M2.out hb2); have HIT := Aside0.mk hIT; have HBB := Aside0.mk hb2; have hq1 : w2.cell? ⟨w.heap.size, 1, none⟩ = some (.slice (some ⟨g1, 0, none⟩) 1 n1) := (blk_cell HR2.out 1).trans rfl; have hLs2 : 1 ≤ L2.size := (by rw [← chrs_length, hL2]; simp); have hLn2 := toList_ne hLs2; have hLc2 := bt_get hL2 hLs2; have HLT2 := Aside0.mk (chrs_tail hL2); have HCON := fun w' => Aside0.mk (strings_Contains.calls _ _ _ w' (con_shut (chrs_head hL2))); rw [show (e41 == 41) = true by rw [h41]; rfl] at HCON; clear h41; clear hb2 hIT hL2 hlt2)
              | ((with_reducible refine gate_builtin (b := .append) (xs := #[.tmp 65, .tmp 67]) rfl ?_); at_builtin; (refine Kd.R_append kptr (w0 := w) w.heap.size rfl (.tmp 65) (.tmp 67) 71 49 (.pointer none) 8 rfl Try.underlying71 infoPtr rfl (by decide) (by omega) (.slice (some ⟨g1, 0, none⟩) 1 n1) [pa] (some ⟨b2, 0, none⟩) [.pointer (some ⟨b2, 0, none⟩)] (fun _ => True) (fun _ => False) rfl rfl ?aP (fun _ hk => hk.elim) ?aF RO2.out HB2.out ?aS ?aL ?_; (case aP => exact rfl); (case aF => exact fun _ _ => trivial); (case aS => exact HB2.out.size); (case aL => simp); intro v1 w3 ho hb hg hat; obtain ⟨g3, n3, hv1, hg1, hl1, ⟨cells1, hcells1⟩⟩ := Kd.R_form ho (by simp); subst hv1; have BR := Aside0.mk (blk_grown HR2.out hg (by simp [Value.ownBlock, hneg])); have hq3 : w3.cell? ⟨w.heap.size, 1, none⟩ = some (.slice (some ⟨g1, 0, none⟩) 1 n1) := (blk_cell BR.out 1).trans rfl; have hz3 : w3.frozen? ⟨w.heap.size, 1, none⟩ = false := blk_frozen BR.out 1; have PD := Aside0.mk (pdone_two M1.out M2.out M3.out M4.out HBB.out HIT.out ho hb hg); clear hcells1 ho hb hg hat hg1 hl1))
              | (go_at_call 53; refine (HCON _).out.mono ?_; rintro e w5 ⟨rfl, hd⟩; have PD5 := Aside0.mk (PDone.below (PDone.below PD.out (below_alloc (Below.refl _ _) _)) (drawn0_below hd)); clear hd))
            go_roundg 1
            case measure => omega
            case rel => exact .inr (.inr ⟨by first | rfl | (simp; done), .two d a b, r3, _, ⟨by rw [HPS.out]; show (if isT d = true then twoB a d (prs k r1) else none) = _; rw [if_pos HTT.out, HPB.out]; show (if e41 = 41 then _ else none) = _; rw [if_pos HEE.out]⟩, rfl, HLT2, PD5⟩)
          · have HEE := Aside0.mk h41
            go_wp2_with (first
              | (go_at_call 43; refine (HI1 _).out.mono ?_; rintro e w2 ⟨⟨p, L2, rfl, hL2, hIT⟩, hb2⟩; obtain ⟨b2, rfl, hlt2⟩ := (hIT w2 (Kept.refl _ _)).some; have HB2 := Aside0.mk (below_step M4.out hb2); have HR2 := Aside0.mk (blk_below M1.out hb2); have RO2 := Aside0.mk (Kd.R_below M2.out hb2); have HIT := Aside0.mk hIT; have HBB := Aside0.mk hb2; have hq1 : w2.cell? ⟨w.heap.size, 1, none⟩ = some (.slice (some ⟨g1, 0, none⟩) 1 n1) := (blk_cell HR2.out 1).trans rfl; have hLs2 : 1 ≤ L2.size := (by rw [← chrs_length, hL2]; simp); have hLn2 := toList_ne hLs2; have hLc2 := bt_get hL2 hLs2; have HLT2 := Aside0.mk (chrs_tail hL2); have HCON := fun w' => Aside0.mk (strings_Contains.calls _ _ _ w' (con_shut (chrs_head hL2))); rw [show (e41 == 41) = false by rw [beq_eq_false_iff_ne]; exact h41] at HCON; clear h41; clear hb2 hIT hL2 hlt2)
              | ((with_reducible refine gate_builtin (b := .append) (xs := #[.tmp 65, .tmp 67]) rfl ?_); at_builtin; (refine Kd.R_append kptr (w0 := w) w.heap.size rfl (.tmp 65) (.tmp 67) 71 49 (.pointer none) 8 rfl Try.underlying71 infoPtr rfl (by decide) (by omega) (.slice (some ⟨g1, 0, none⟩) 1 n1) [pa] (some ⟨b2, 0, none⟩) [.pointer (some ⟨b2, 0, none⟩)] (fun _ => True) (fun _ => False) rfl rfl ?aP (fun _ hk => hk.elim) ?aF RO2.out HB2.out ?aS ?aL ?_; (case aP => exact rfl); (case aF => exact fun _ _ => trivial); (case aS => exact HB2.out.size); (case aL => simp); intro v1 w3 ho hb hg hat; obtain ⟨g3, n3, hv1, hg1, hl1, ⟨cells1, hcells1⟩⟩ := Kd.R_form ho (by simp); subst hv1; have BR := Aside0.mk (blk_grown HR2.out hg (by simp [Value.ownBlock, hneg])); have hq3 : w3.cell? ⟨w.heap.size, 1, none⟩ = some (.slice (some ⟨g1, 0, none⟩) 1 n1) := (blk_cell BR.out 1).trans rfl; have hz3 : w3.frozen? ⟨w.heap.size, 1, none⟩ = false := blk_frozen BR.out 1; have PD := Aside0.mk (pdone_two M1.out M2.out M3.out M4.out HBB.out HIT.out ho hb hg); clear hcells1 ho hb hg hat hg1 hl1))
              | (go_at_call 53; refine (HCON _).out.mono ?_; rintro e w5 ⟨rfl, hd⟩; have PD5 := Aside0.mk (PDone.below (PDone.below PD.out (below_alloc (Below.refl _ _) _)) (drawn0_below hd)); clear hd))
            obtain rfl : O = none := by rw [← HO9.out, HPS.out]; show (if isT d = true then twoB a d (prs k r1) else none) = none; rw [if_pos HTT.out, HPB.out]; show (if e41 = 41 then _ else none) = _; rw [if_neg HEE.out]
            go_ret2
            exact ⟨rfl, PD5.out.2⟩
    · obtain rfl : O = some (tm, r3) := by rw [← HO9.out, HP.out]
      go_wp2_with fail
      go_ret2
      exact ⟨⟨_, L, rfl, HL.out, HD.out.1⟩, HD.out.2⟩
end Go.Proofs.Ytjjnckgdpdelkaa.P

-- spec.l7Read reads a term from a place on.
namespace Go.Proofs.Ytjjnckgdpdelkaa.P
open Go.RowKit Go.Proofs.YtjjnckgdpdelkaaW.PrintWords Go.Proofs.YtjjnckgdpdelkaaW.PrintLast Go.Proofs.YtjjnckgdpdelkaaW.PrintMore
set_option linter.unusedVariables false
set_option linter.unusedSimpArgs false

/-- The place behind what is read, 0 if there is none. -/
def end7 (n : Nat) : Option (List UInt8) → Nat
  | none => 0
  | some r => n - r.length
def Post7 (x : Tm × Option (List UInt8)) (n : Nat) (w : World) (e : Ending) (w' : World) : Prop := ∃ v, e = .returned (.tuple #[.agg #[.int .u8 x.1.S.f0, v], .int .i64 (end7 n x.2 : Nat)]) ∧ Kd.R k44 44 w' w.heap.size (fun _ => True) v x.1.S.f1 ∧ Below w.heap.size w w'

theorem new_at {W : World} {o : Obj} {g : Nat} (h : g = W.heap.size) : (W.alloc o).heap[g]? = some o := by subst h; exact blk_new _ _
theorem R7_of {W : World} {base g : Nat} {xs : List S44} {cs : Array Value} (hb : base ≤ g) (hg : W.heap[g]? = some (.cells cs 44 (0, 0))) (hn : xs.length ≤ 100)
    (hr : Reps (k44.M W base (fun k => True ∧ some k ≠ (Value.slice (some ⟨g, 0, none⟩) xs.length xs.length).ownBlock)) 2 xs cs.toList) :
    Kd.R k44 44 W base (fun _ => True) (.slice (some ⟨g, 0, none⟩) xs.length xs.length) xs := by
  have hl := hr.1
  have hc : cs.size = xs.length * 2 := by rw [← hl]; simp
  exact ⟨fun _ _ => trivial, cs.toList, ⟨hl, .inr ⟨g, xs.length, cs, rfl, hb, hg, Nat.le_refl _, by unfold maxLen; omega, hc, List.take_of_length_le (by rw [hl]; exact Nat.le_refl _)⟩⟩, hr⟩
theorem ret7 {i m : Nat} {c : Int} {v : Value} (h : m = i) {a b : Value} (ha : a = .agg #[.int .u8 c, v]) (hb : b = .int .i64 (i : Int)) : Ending.returned (.tuple #[a, b]) = .returned (.tuple #[.agg #[.int .u8 c, v], .int .i64 (m : Nat)]) := by rw [ha, hb, h]

set_option maxHeartbeats 8000000 in
set_option maxRecDepth 100000 in
theorem read7_leaf (s : ByteArray) (hs : s.size ≤ 100) (i : Nat) (c : UInt8) (r : List UInt8) (hc : (chrs s).drop i = c :: r) (hL : isL c = true) (w : World) :
    Calls Try.prog 40 #[.string s, .int .i64 i] w (Post7 (.leaf c, some r) s.size w) := by
  have hi : i < s.size := by
    rcases Nat.lt_or_ge i s.size with h | h
    · exact h
    · rw [List.drop_eq_nil_of_le (by rw [chrs_length]; exact h)] at hc; cases hc
  have h0 : s[i] = c := by
    show (chrs s)[i]'(by rw [chrs_length]; exact hi) = c
    rw [List.drop_eq_getElem_cons (by rw [chrs_length]; exact hi)] at hc
    exact (List.cons.inj hc).1
  have hr : s.size - r.length = i + 1 := by
    have := congrArg List.length hc
    rw [List.length_drop, chrs_length, List.length_cons] at this
    omega
  have hii : (i : Int) < (s.size : Int) := by omega
  have hR := Aside0.mk hr
  clear hc hr
  rcases isL_cases hL with rfl | rfl | rfl
  all_goals
    go_enter Try.func40, Try.ntmps40
    go_wp2_with fail
    refine bodyPost_ret (results_ct rfl _ _ w.heap.size 44 _ (0, 0) _ rfl (blk_alloc (blk_alloc (blk_alloc (blk_new w _) _) _) _) Try.underlying44 rfl (by kernel_rfl)) rfl ?_
    refine ⟨.slice (some ⟨w.heap.size + 1 + 1 + 1, 0, none⟩) 0 0, ret7 (i := i + 1) hR.out rfl (by simp), ?_, below_alloc (below_alloc (below_alloc (below_alloc (Below.refl _ _) _) _) _) _⟩
    refine R7_of (xs := []) (cs := #[]) (by omega) ?_ (by simp) (Reps.none _ _)
    exact new_at (by simp only [World.size_alloc])

theorem child7 {W : World} {base b0 : Nat} {v : Value} {xs : List S44} (h : Kd.R k44 44 W base (fun _ => True) v xs) (hb : b0 < base) : Kd.R k44 44 W b0 (fun k => b0 < k ∧ k < W.heap.size) v xs :=
  Kd.R_lower (Kd.R_mono (Kd.R_bound h) (fun k hk => ⟨by have := hk.2.1; omega, hk.2.2.1⟩)) (Nat.le_of_lt hb)
theorem reps_1 {α : Type} {R : α → List Value → Prop} {x : α} {a b : Value} (h : R x [a, b]) : Reps R 2 [x] [a, b] := ⟨rfl, fun j p hj => by
  cases j with
  | zero => simp only [List.getElem?_cons_zero, Option.some.injEq] at hj; subst hj; exact h
  | succ j => simp at hj⟩
theorem reps_2 {α : Type} {R : α → List Value → Prop} {x y : α} {a b c d : Value} (h : R x [a, b]) (h' : R y [c, d]) : Reps R 2 [x, y] [a, b, c, d] := ⟨rfl, fun j p hj => by
  cases j with
  | zero => simp only [List.getElem?_cons_zero, Option.some.injEq] at hj; subst hj; exact h
  | succ j =>
    cases j with
    | zero => simp only [List.getElem?_cons_succ, List.getElem?_cons_zero, Option.some.injEq] at hj; subst hj; exact h'
    | succ j => simp at hj⟩
/-- A failure: the reference hands back '0' and the place 0. -/
theorem no7_post (n : Nat) (w W : World) {v : Value} {gb : Nat} (hv : v = .tuple #[.agg #[.int .u8 48, .slice (some ⟨gb, 0, none⟩) 0 0], .int .i64 0]) (hg : W.heap[gb]? = some (.cells #[] 44 (0, 0))) (hgb : w.heap.size ≤ gb) (hb : Below w.heap.size w W) : Post7 no7 n w (.returned v) W :=
  ⟨.slice (some ⟨gb, 0, none⟩) 0 0, by rw [hv]; rfl, R7_of (xs := []) (cs := #[]) hgb hg (by simp) (Reps.none _ _), hb⟩

set_option maxHeartbeats 8000000 in
set_option maxRecDepth 100000 in
theorem read7_end (s : ByteArray) (hs : s.size ≤ 100) (i : Nat) (hi : s.size ≤ i) (w : World) :
    Calls Try.prog 40 #[.string s, .int .i64 i] w (Post7 no7 s.size w) := by
  have hii : (s.size : Int) ≤ (i : Int) := by omega
  go_enter Try.func40, Try.ntmps40
  go_wp2_with fail
  refine bodyPost_ret (results_ct rfl _ _ w.heap.size 44 _ (0, 0) _ rfl (blk_alloc (blk_alloc (blk_new w _) _) _) Try.underlying44 rfl (by kernel_rfl)) rfl ?_
  exact no7_post s.size w _ (gb := w.heap.size + 1) rfl (blk_alloc (new_at (by simp only [World.size_alloc])) _) (by omega) (below_alloc (below_alloc (below_alloc (Below.refl _ _) _) _) _)
set_option maxHeartbeats 8000000 in
set_option maxRecDepth 100000 in
theorem read7_other (s : ByteArray) (hs : s.size ≤ 100) (i : Nat) (c : UInt8) (r : List UInt8) (hc : (chrs s).drop i = c :: r) (h1 : isL c = false) (h2 : isO c = false) (h3 : c ≠ 40) (w : World) :
    Calls Try.prog 40 #[.string s, .int .i64 i] w (Post7 no7 s.size w) := by
  have hi : i < s.size := by
    rcases Nat.lt_or_ge i s.size with h | h
    · exact h
    · rw [List.drop_eq_nil_of_le (by rw [chrs_length]; exact h)] at hc; cases hc
  have h0 : s[i] = c := by
    show (chrs s)[i]'(by rw [chrs_length]; exact hi) = c
    rw [List.drop_eq_getElem_cons (by rw [chrs_length]; exact hi)] at hc
    exact (List.cons.inj hc).1
  have hii : (i : Int) < (s.size : Int) := by omega
  have hn : ¬ c.toNat = 48 ∧ ¬ c.toNat = 49 ∧ ¬ c.toNat = 97 ∧ ¬ c.toNat = 42 ∧ ¬ c.toNat = 40 ∧ ¬ (50 ≤ c.toNat ∧ c.toNat ≤ 53) := by
    have q : ∀ d : UInt8, c.toNat = d.toNat → c = d := fun d h => UInt8.toNat_inj.1 h
    refine ⟨fun h => ?_, fun h => ?_, fun h => ?_, fun h => ?_, fun h => h3 (q 40 h), fun h => ?_⟩
    · rw [q 48 h] at h1; cases h1
    · rw [q 49 h] at h1; cases h1
    · rw [q 97 h] at h1; cases h1
    · rw [q 42 h] at h2; cases h2
    · unfold isO at h2
      rw [Bool.or_eq_false_iff, Bool.and_eq_false_iff, decide_eq_false_iff_not, decide_eq_false_iff_not] at h2
      omega
  obtain ⟨n1, n2, n3, n4, n5, n6⟩ := hn
  have m1 : ((c.toNat : Int) == 48) = false := by rw [beq_eq_false_iff_ne]; omega
  have m2 : ((c.toNat : Int) == 49) = false := by rw [beq_eq_false_iff_ne]; omega
  have m3 : ((c.toNat : Int) == 97) = false := by rw [beq_eq_false_iff_ne]; omega
  have m4 : ((c.toNat : Int) == 42) = false := by rw [beq_eq_false_iff_ne]; omega
  have m5 : ((c.toNat : Int) == 40) = false := by rw [beq_eq_false_iff_ne]; omega
  have m6 : ((c.toNat : Int) != 40) = true := by rw [bne_iff_ne]; omega
  have hlt : c.toNat < 256 := c.toNat_lt
  have h7 : (c.toNat : Int) < 50 ∨ (50 ≤ (c.toNat : Int) ∧ 53 < (c.toNat : Int)) := by omega
  clear hc h1 h2 h3 n1 n2 n3 n4 n5 n6
  rcases h7 with h7 | ⟨h7, h8⟩
  all_goals
    go_enter Try.func40, Try.ntmps40
    go_wp2_with fail
    refine bodyPost_ret (results_ct rfl _ _ w.heap.size 44 _ (0, 0) _ rfl (blk_alloc (blk_alloc (blk_new w _) _) _) Try.underlying44 rfl (by kernel_rfl)) rfl ?_
    exact no7_post s.size w _ (gb := w.heap.size + 1) rfl (blk_alloc (new_at (by simp only [World.size_alloc])) _) (by omega) (below_alloc (below_alloc (below_alloc (Below.refl _ _) _) _) _)
end Go.Proofs.Ytjjnckgdpdelkaa.P

-- spec.l7Read at a sign ahead of a term.
namespace Go.Proofs.Ytjjnckgdpdelkaa.P
open Go.RowKit Go.Proofs.YtjjnckgdpdelkaaW.PrintWords Go.Proofs.YtjjnckgdpdelkaaW.PrintLast Go.Proofs.YtjjnckgdpdelkaaW.PrintMore
set_option linter.unusedVariables false
set_option linter.unusedSimpArgs false

set_option maxHeartbeats 16000000 in
set_option maxRecDepth 100000 in
theorem read7_one (s : ByteArray) (hs : s.size ≤ 100) (i : Nat) (c : UInt8) (r : List UInt8) (hc : (chrs s).drop i = c :: r) (hO : isO c = true) (x : Tm × Option (List UInt8))
    (IH : ∀ w', Calls Try.prog 40 #[.string s, .int .i64 (i + 1 : Nat)] w' (Post7 x s.size w')) (w : World) :
    Calls Try.prog 40 #[.string s, .int .i64 i] w (Post7 (.one c x.1, x.2) s.size w) := by
  have hi : i < s.size := by
    rcases Nat.lt_or_ge i s.size with h | h
    · exact h
    · rw [List.drop_eq_nil_of_le (by rw [chrs_length]; exact h)] at hc; cases hc
  have h0 : s[i] = c := by
    show (chrs s)[i]'(by rw [chrs_length]; exact hi) = c
    rw [List.drop_eq_getElem_cons (by rw [chrs_length]; exact hi)] at hc
    exact (List.cons.inj hc).1
  have hii : (i : Int) < (s.size : Int) := by omega
  have HI := fun w' => Aside0.mk (show Calls Try.prog 40 #[.string s, .int .i64 ((i : Int) + 1)] w' (Post7 x s.size w') from IH w')
  have hlt : c.toNat < 256 := c.toNat_lt
  have hmm : (((c.toNat : Int) == 48) = false ∧ ((c.toNat : Int) == 49) = false ∧ ((c.toNat : Int) == 97) = false) ∧ (((c.toNat : Int) == 42) = true ∨ (((c.toNat : Int) == 42) = false ∧ 50 ≤ (c.toNat : Int) ∧ (c.toNat : Int) ≤ 53)) := by
    rcases isO_cases hO with rfl | ⟨h1, h2, h3⟩
    · exact ⟨⟨rfl, rfl, rfl⟩, .inl rfl⟩
    · refine ⟨⟨?_, ?_, ?_⟩, .inr ⟨?_, by omega, by omega⟩⟩
      all_goals rw [beq_eq_false_iff_ne]; omega
  obtain ⟨⟨m1, m2, m3⟩, hm4⟩ := hmm
  clear hc IH hO
  rcases hm4 with m4 | ⟨m4, m5, m6⟩
  all_goals
    go_enter Try.func40, Try.ntmps40
    go_wp2_with (go_at_call 40; refine (HI _).out.mono ?_; rintro e w2 ⟨v, rfl, hR, hb2⟩; obtain ⟨A, cc, rfl⟩ := Kd.R_slice hR; have BG := Aside0.mk (blk_below (blk_alloc (blk_alloc (blk_new w _) _) _) hb2); have hg0 := blk_cell BG.out 0; have hg1 := blk_cell BG.out 1; have hf0 := blk_frozen BG.out 0; have hf1 := blk_frozen BG.out 1; have hsz2 : w.heap.size < w2.heap.size := blk_lt BG.out; have HB2 := Aside0.mk (below_step (below_alloc (below_alloc (below_alloc (Below.refl w.heap.size w) _) _) _) hb2); have HR := Aside0.mk hR; clear hR hb2)
    have BE := Aside0.mk (blk_put (blk_put BG.out 0 (.int .u8 (c.toNat : Int)) rfl) 1 (.slice (some ⟨w2.heap.size + 1, 0, none⟩) 1 1) rfl)
    refine bodyPost_ret (results_ct rfl _ _ w.heap.size 44 _ (0, 0) _ rfl (blk_alloc (blk_alloc BE.out _) _) Try.underlying44 rfl (by kernel_rfl)) rfl ?_
    refine ⟨.slice (some ⟨w2.heap.size + 1, 0, none⟩) 1 1, rfl, ?_, below_alloc (below_alloc (below_set (below_set HB2.out (Nat.le_refl _)) (Nat.le_refl _)) _) _⟩
    have hch := Kd.R_alloc (Kd.R_alloc (Kd.R_far (p := ⟨w.heap.size, 1, none⟩) (Kd.R_far (p := ⟨w.heap.size, 0, none⟩) (child7 (b0 := w.heap.size) HR.out (by simp only [World.size_alloc]; omega)) (fun k hk => by show k ≠ w.heap.size; omega) (.int .u8 (c.toNat : Int))) (fun k hk => by show k ≠ w.heap.size; omega) (.slice (some ⟨w2.heap.size + 1, 0, none⟩) 1 1)) (.cells #[.int .u8 x.1.S.f0, .slice A x.1.S.f1.length cc] 44)) (.cells #[.int .u8 x.1.S.f0, .slice A x.1.S.f1.length cc] 44)
    exact R7_of (xs := [x.1.S]) (g := w2.heap.size + 1) (by omega) (new_at (by simp [World.size_alloc])) (by simp) (reps_1 (k44_mkM _ _ _ x.1.S (Kd.R_mono hch (fun k hk => ⟨trivial, by simp only [Value.ownBlock, ne_eq, Option.some.injEq]; omega⟩))))
end Go.Proofs.Ytjjnckgdpdelkaa.P

-- spec.l7Read at a bracket.
namespace Go.Proofs.Ytjjnckgdpdelkaa.P
open Go.RowKit Go.Proofs.YtjjnckgdpdelkaaW.PrintWords Go.Proofs.YtjjnckgdpdelkaaW.PrintLast Go.Proofs.YtjjnckgdpdelkaaW.PrintMore
set_option linter.unusedVariables false
set_option linter.unusedSimpArgs false

theorem post7_at {x : Tm × Option (List UInt8)} {n : Nat} {w w' : World} {e : Ending} (h : Post7 x n w e w') {m : Int} (hm : (end7 n x.2 : Int) = m) : ∃ v, e = .returned (.tuple #[.agg #[.int .u8 x.1.S.f0, v], .int .i64 m]) ∧ Kd.R k44 44 w' w.heap.size (fun _ => True) v x.1.S.f1 ∧ Below w.heap.size w w' := by
  subst hm; exact h
theorem at_drop {s : ByteArray} {j : Nat} {d : UInt8} {r : List UInt8} (h : (chrs s).drop j = d :: r) (hj : j < s.size) : s[j] = d := by
  show (chrs s)[j]'(by rw [chrs_length]; exact hj) = d
  rw [List.drop_eq_getElem_cons (by rw [chrs_length]; exact hj)] at h
  exact (List.cons.inj h).1

set_option maxHeartbeats 32000000 in
set_option maxRecDepth 100000 in
theorem read7_two (s : ByteArray) (hs : s.size ≤ 100) (i : Nat) (r : List UInt8) (hc : (chrs s).drop i = 40 :: r) (x : Tm × Option (List UInt8)) (P : List UInt8 → Tm × Option (List UInt8))
    (IH : ∀ w', Calls Try.prog 40 #[.string s, .int .i64 (i + 1 : Nat)] w' (Post7 x s.size w'))
    (hx : ∀ r', x.2 = some r' → (chrs s).drop (s.size - r'.length) = r' ∧ r'.length + i < s.size)
    (IH2 : ∀ (j : Nat) w', i < j → j ≤ s.size → Calls Try.prog 40 #[.string s, .int .i64 (j : Nat)] w' (Post7 (P ((chrs s).drop j)) s.size w'))
    (hy : ∀ j r', i < j → (P ((chrs s).drop j)).2 = some r' → (chrs s).drop (s.size - r'.length) = r' ∧ r'.length + j ≤ s.size) (w : World) :
    Calls Try.prog 40 #[.string s, .int .i64 i] w (Post7 (one7 P x) s.size w) := by
  have hi : i < s.size := by
    rcases Nat.lt_or_ge i s.size with h | h
    · exact h
    · rw [List.drop_eq_nil_of_le (by rw [chrs_length]; exact h)] at hc; cases hc
  have h0 := at_drop hc hi
  have hii : (i : Int) < (s.size : Int) := by omega
  have HI := fun w' => Aside0.mk (show Calls Try.prog 40 #[.string s, .int .i64 ((i : Int) + 1)] w' (Post7 x s.size w') from IH w')
  have HHS := Aside0.mk hs
  have HII := Aside0.mk hi
  clear hc IH
  obtain ⟨a, o⟩ := x
  cases o with
  | none =>
    clear hx IH2 hy
    go_enter Try.func40, Try.ntmps40
    go_wp2_with (go_at_call 40; refine (HI _).out.mono ?_; rintro e w2 hp; obtain ⟨v, rfl, hR, hb2⟩ := post7_at hp (m := 0) rfl; obtain ⟨A, cc, rfl⟩ := Kd.R_slice hR; have BG := Aside0.mk (blk_below (blk_alloc (blk_alloc (blk_new w _) _) _) hb2); have BN := Aside0.mk (blk_below (new_at (g := w.heap.size + 1 + 1) (by simp only [World.size_alloc])) hb2); have BM := Aside0.mk (blk_below (blk_alloc (new_at (g := w.heap.size + 1) (by simp only [World.size_alloc])) _) hb2); have hg0 := blk_cell BG.out 0; have hg1 := blk_cell BG.out 1; have hf0 := blk_frozen BG.out 0; have hf1 := blk_frozen BG.out 1; have hn0 := blk_cell BN.out 0; have hn1 := blk_cell BN.out 1; have hsz2 : w.heap.size + 1 + 1 < w2.heap.size := blk_lt BN.out; have hsz1 : w.heap.size < w2.heap.size := blk_lt BG.out; have HB2 := Aside0.mk (below_step (below_alloc (below_alloc (below_alloc (Below.refl w.heap.size w) _) _) _) hb2); have HRA := Aside0.mk (child7 (b0 := w.heap.size) hR (by simp only [World.size_alloc]; omega)); clear hR hb2 hp)
    refine bodyPost_ret (results_ct rfl _ _ w.heap.size 44 _ (0, 0) _ rfl (blk_alloc (blk_put (blk_put BG.out 0 (.int .u8 48) rfl) 1 (.slice (some ⟨w.heap.size + 1, 0, none⟩) 0 0) rfl) _) Try.underlying44 rfl (by kernel_rfl)) rfl ?_
    exact no7_post s.size w _ (gb := w.heap.size + 1) rfl (blk_alloc (blk_far (blk_far BM.out (by show w.heap.size + 1 ≠ w.heap.size; omega) _) (by show w.heap.size + 1 ≠ w.heap.size; omega) _) _) (by omega) (below_alloc (below_set (below_set HB2.out (Nat.le_refl _)) (Nat.le_refl _)) _)
  | some r' =>
    obtain ⟨hx1, hx2⟩ := hx r' rfl
    clear hx
    cases r' with
    | nil =>
      clear IH2 hy hx1
      have hn0 : ((s.size : Int) == 0) = false := by rw [beq_eq_false_iff_ne]; omega
      clear hx2
      go_enter Try.func40, Try.ntmps40
      go_wp2_with (go_at_call 40; refine (HI _).out.mono ?_; rintro e w2 hp; obtain ⟨v, rfl, hR, hb2⟩ := post7_at hp (m := (s.size : Int)) (by show ((s.size - 0 : Nat) : Int) = _; rw [Nat.sub_zero]); obtain ⟨A, cc, rfl⟩ := Kd.R_slice hR; have BG := Aside0.mk (blk_below (blk_alloc (blk_alloc (blk_new w _) _) _) hb2); have BN := Aside0.mk (blk_below (new_at (g := w.heap.size + 1 + 1) (by simp only [World.size_alloc])) hb2); have BM := Aside0.mk (blk_below (blk_alloc (new_at (g := w.heap.size + 1) (by simp only [World.size_alloc])) _) hb2); have hg0 := blk_cell BG.out 0; have hg1 := blk_cell BG.out 1; have hf0 := blk_frozen BG.out 0; have hf1 := blk_frozen BG.out 1; have hn0 := blk_cell BN.out 0; have hn1 := blk_cell BN.out 1; have hsz2 : w.heap.size + 1 + 1 < w2.heap.size := blk_lt BN.out; have hsz1 : w.heap.size < w2.heap.size := blk_lt BG.out; have HB2 := Aside0.mk (below_step (below_alloc (below_alloc (below_alloc (Below.refl w.heap.size w) _) _) _) hb2); have HRA := Aside0.mk (child7 (b0 := w.heap.size) hR (by simp only [World.size_alloc]; omega)); clear hR hb2 hp)
      refine bodyPost_ret (results_ct rfl _ _ w.heap.size 44 _ (0, 0) _ rfl (blk_alloc (blk_put (blk_put BG.out 0 (.int .u8 48) rfl) 1 (.slice (some ⟨w.heap.size + 1, 0, none⟩) 0 0) rfl) _) Try.underlying44 rfl (by kernel_rfl)) rfl ?_
      exact no7_post s.size w _ (gb := w.heap.size + 1) rfl (blk_alloc (blk_far (blk_far BM.out (by show w.heap.size + 1 ≠ w.heap.size; omega) _) (by show w.heap.size + 1 ≠ w.heap.size; omega) _) _) (by omega) (below_alloc (below_set (below_set HB2.out (Nat.le_refl _)) (Nat.le_refl _)) _)
    | cons d r1 =>
      obtain ⟨M, hM⟩ : ∃ M, s.size - (r1.length + 1) = M := ⟨_, rfl⟩
      rw [List.length_cons] at hx1 hx2
      rw [hM] at hx1
      have hMi : i < M := by omega
      have hMn : M < s.size := by omega
      have hMs := at_drop hx1 hMn
      have hdr : (chrs s).drop (M + 1) = r1 := by
        rw [← List.drop_drop, hx1]; rfl
      have hM1 : (M : Int) < (s.size : Int) := by omega
      have hM0 : ((M : Int) == 0) = false := by rw [beq_eq_false_iff_ne]; omega
      have HM := Aside0.mk hM
      have HMI := Aside0.mk hMi
      have hM2 : (M : Int) ≤ 100 := by omega
      clear hx1 hx2 hM
      cases hT : isT d with
      | false =>
        have hne : ((d.toNat : Int) == 43) = false ∧ ((d.toNat : Int) == 46) = false ∧ ((d.toNat : Int) == 38) = false ∧ ((d.toNat : Int) != 43) = true ∧ ((d.toNat : Int) != 46) = true ∧ ((d.toNat : Int) != 38) = true := by
          have q : ∀ e : UInt8, isT e = true → (d.toNat : Int) ≠ (e.toNat : Int) := fun e he h => by
            have : d = e := UInt8.toNat_inj.1 (by omega)
            rw [this, he] at hT; cases hT
          have q1 := q 43 rfl
          have q2 := q 46 rfl
          have q3 := q 38 rfl
          refine ⟨?_, ?_, ?_, ?_, ?_, ?_⟩
          all_goals first | (rw [beq_eq_false_iff_ne]; assumption) | (rw [bne_iff_ne]; assumption)
        obtain ⟨e1, e2, e3, e4, e5, e6⟩ := hne
        have HO : one7 P (a, some (d :: r1)) = no7 := by show (if isT d = true then _ else no7) = no7; rw [hT, if_neg (by decide)]
        rw [HO]
        clear IH2 hy hT HO hdr hMi
        go_enter Try.func40, Try.ntmps40
        go_wp2_with (go_at_call 40; refine (HI _).out.mono ?_; rintro e w2 hp; obtain ⟨v, rfl, hR, hb2⟩ := post7_at hp (m := (M : Int)) (by show ((s.size - (r1.length + 1) : Nat) : Int) = _; rw [HM.out]); obtain ⟨A, cc, rfl⟩ := Kd.R_slice hR; have BG := Aside0.mk (blk_below (blk_alloc (blk_alloc (blk_new w _) _) _) hb2); have BN := Aside0.mk (blk_below (new_at (g := w.heap.size + 1 + 1) (by simp only [World.size_alloc])) hb2); have BM := Aside0.mk (blk_below (blk_alloc (new_at (g := w.heap.size + 1) (by simp only [World.size_alloc])) _) hb2); have hg0 := blk_cell BG.out 0; have hg1 := blk_cell BG.out 1; have hf0 := blk_frozen BG.out 0; have hf1 := blk_frozen BG.out 1; have hn0 := blk_cell BN.out 0; have hn1 := blk_cell BN.out 1; have hsz2 : w.heap.size + 1 + 1 < w2.heap.size := blk_lt BN.out; have hsz1 : w.heap.size < w2.heap.size := blk_lt BG.out; have HB2 := Aside0.mk (below_step (below_alloc (below_alloc (below_alloc (Below.refl w.heap.size w) _) _) _) hb2); have HRA := Aside0.mk (child7 (b0 := w.heap.size) hR (by simp only [World.size_alloc]; omega)); clear hR hb2 hp)
        refine bodyPost_ret (results_ct rfl _ _ w.heap.size 44 _ (0, 0) _ rfl (blk_alloc (blk_put (blk_put BG.out 0 (.int .u8 48) rfl) 1 (.slice (some ⟨w.heap.size + 1, 0, none⟩) 0 0) rfl) _) Try.underlying44 rfl (by kernel_rfl)) rfl ?_
        exact no7_post s.size w _ (gb := w.heap.size + 1) rfl (blk_alloc (blk_far (blk_far BM.out (by show w.heap.size + 1 ≠ w.heap.size; omega) _) (by show w.heap.size + 1 ≠ w.heap.size; omega) _) _) (by omega) (below_alloc (below_set (below_set HB2.out (Nat.le_refl _)) (Nat.le_refl _)) _)
      | true =>
        have HO : one7 P (a, some (d :: r1)) = two7 a d (P r1) := by show (if isT d = true then _ else no7) = _; rw [if_pos hT]
        rw [HO]
        have HI2 := fun w' => Aside0.mk (show Calls Try.prog 40 #[.string s, .int .i64 ((M : Int) + 1)] w' (Post7 (P r1) s.size w') by have h9 := IH2 (M + 1) w' (by omega) (by omega); rw [hdr] at h9; exact h9)
        have hy2 := fun r' (h : (P r1).2 = some r') => hy (M + 1) r' (by omega) (by rw [hdr]; exact h)
        clear IH2 hy HO hdr
        generalize P r1 = y at *
        obtain ⟨b, o2⟩ := y
        have hdc := isT_cases hT
        clear hT
        cases o2 with
        | none =>
          clear hy2 hMi
          rcases hdc with rfl | rfl | rfl
          all_goals
            go_enter Try.func40, Try.ntmps40
            go_wp2_with (first
              | (go_at_call 40; have _tok := HB2; refine (HI2 _).out.mono ?_; rintro e9 w3 hp2; obtain ⟨v2, rfl, hR2, hb3⟩ := post7_at hp2 (m := 0) rfl; obtain ⟨A2, cc2, rfl⟩ := Kd.R_slice hR2; have BG3 := Aside0.mk (blk_below (blk_alloc BG.out _) hb3); have BN3 := Aside0.mk (blk_below (blk_alloc BN.out _) hb3); have BM3 := Aside0.mk (blk_below (blk_alloc BM.out _) hb3); have BA3 := Aside0.mk (blk_below (new_at (W := w2) (g := w2.heap.size) rfl) hb3); clear hg0 hg1 hf0 hf1 hn0 hn1; have hg0 := blk_cell BG3.out 0; have hg1 := blk_cell BG3.out 1; have hf0 := blk_frozen BG3.out 0; have hf1 := blk_frozen BG3.out 1; have hn0 := blk_cell BN3.out 0; have hn1 := blk_cell BN3.out 1; have ha0 := blk_cell BA3.out 0; have ha1 := blk_cell BA3.out 1; have hsz4 : w.heap.size + 1 + 1 < w3.heap.size := blk_lt BN3.out; have hsz3 : w.heap.size < w3.heap.size := blk_lt BG3.out; have hsz5 : w2.heap.size < w3.heap.size := blk_lt BA3.out; have HB3 := Aside0.mk (below_step (below_alloc HB2.out _) hb3); have HRA3 := Aside0.mk (Kd.R_below (Kd.R_alloc HRA.out (.cells #[.int .u8 a.S.f0, .slice A a.S.f1.length cc] 44)) hb3); have HRB := Aside0.mk (child7 (b0 := w.heap.size) hR2 (by simp only [World.size_alloc]; omega)); clear hR2 hb3 hp2 _tok)
              | (go_at_call 40; refine (HI _).out.mono ?_; rintro e w2 hp; obtain ⟨v, rfl, hR, hb2⟩ := post7_at hp (m := (M : Int)) (by show ((s.size - (r1.length + 1) : Nat) : Int) = _; rw [HM.out]); obtain ⟨A, cc, rfl⟩ := Kd.R_slice hR; have BG := Aside0.mk (blk_below (blk_alloc (blk_alloc (blk_new w _) _) _) hb2); have BN := Aside0.mk (blk_below (new_at (g := w.heap.size + 1 + 1) (by simp only [World.size_alloc])) hb2); have BM := Aside0.mk (blk_below (blk_alloc (new_at (g := w.heap.size + 1) (by simp only [World.size_alloc])) _) hb2); have hg0 := blk_cell BG.out 0; have hg1 := blk_cell BG.out 1; have hf0 := blk_frozen BG.out 0; have hf1 := blk_frozen BG.out 1; have hn0 := blk_cell BN.out 0; have hn1 := blk_cell BN.out 1; have hsz2 : w.heap.size + 1 + 1 < w2.heap.size := blk_lt BN.out; have hsz1 : w.heap.size < w2.heap.size := blk_lt BG.out; have HB2 := Aside0.mk (below_step (below_alloc (below_alloc (below_alloc (Below.refl w.heap.size w) _) _) _) hb2); have HRA := Aside0.mk (child7 (b0 := w.heap.size) hR (by simp only [World.size_alloc]; omega)); clear hR hb2 hp))
            refine bodyPost_ret (results_ct rfl _ _ w.heap.size 44 _ (0, 0) _ rfl (blk_alloc (blk_put (blk_put BG3.out 0 (.int .u8 48) rfl) 1 (.slice (some ⟨w.heap.size + 1, 0, none⟩) 0 0) rfl) _) Try.underlying44 rfl (by kernel_rfl)) rfl ?_
            exact no7_post s.size w _ (gb := w.heap.size + 1) rfl (blk_alloc (blk_far (blk_far BM3.out (by show w.heap.size + 1 ≠ w.heap.size; omega) _) (by show w.heap.size + 1 ≠ w.heap.size; omega) _) _) (by omega) (below_alloc (below_set (below_set HB3.out (Nat.le_refl _)) (Nat.le_refl _)) _)
        | some r2 =>
          obtain ⟨hy3, hy4⟩ := hy2 r2 rfl
          clear hy2
          cases r2 with
          | nil =>
            have hn0 : ((s.size : Int) == 0) = false := by rw [beq_eq_false_iff_ne]; omega
            clear hy3 hy4 hMi
            rcases hdc with rfl | rfl | rfl
            all_goals
              go_enter Try.func40, Try.ntmps40
              go_wp2_with (first
                | (go_at_call 40; have _tok := HB2; refine (HI2 _).out.mono ?_; rintro e9 w3 hp2; obtain ⟨v2, rfl, hR2, hb3⟩ := post7_at hp2 (m := (s.size : Int)) (by show ((s.size - 0 : Nat) : Int) = _; rw [Nat.sub_zero]); obtain ⟨A2, cc2, rfl⟩ := Kd.R_slice hR2; have BG3 := Aside0.mk (blk_below (blk_alloc BG.out _) hb3); have BN3 := Aside0.mk (blk_below (blk_alloc BN.out _) hb3); have BM3 := Aside0.mk (blk_below (blk_alloc BM.out _) hb3); have BA3 := Aside0.mk (blk_below (new_at (W := w2) (g := w2.heap.size) rfl) hb3); clear hg0 hg1 hf0 hf1 hn0 hn1; have hg0 := blk_cell BG3.out 0; have hg1 := blk_cell BG3.out 1; have hf0 := blk_frozen BG3.out 0; have hf1 := blk_frozen BG3.out 1; have hn0 := blk_cell BN3.out 0; have hn1 := blk_cell BN3.out 1; have ha0 := blk_cell BA3.out 0; have ha1 := blk_cell BA3.out 1; have hsz4 : w.heap.size + 1 + 1 < w3.heap.size := blk_lt BN3.out; have hsz3 : w.heap.size < w3.heap.size := blk_lt BG3.out; have hsz5 : w2.heap.size < w3.heap.size := blk_lt BA3.out; have HB3 := Aside0.mk (below_step (below_alloc HB2.out _) hb3); have HRA3 := Aside0.mk (Kd.R_below (Kd.R_alloc HRA.out (.cells #[.int .u8 a.S.f0, .slice A a.S.f1.length cc] 44)) hb3); have HRB := Aside0.mk (child7 (b0 := w.heap.size) hR2 (by simp only [World.size_alloc]; omega)); clear hR2 hb3 hp2 _tok)
                | (go_at_call 40; refine (HI _).out.mono ?_; rintro e w2 hp; obtain ⟨v, rfl, hR, hb2⟩ := post7_at hp (m := (M : Int)) (by show ((s.size - (r1.length + 1) : Nat) : Int) = _; rw [HM.out]); obtain ⟨A, cc, rfl⟩ := Kd.R_slice hR; have BG := Aside0.mk (blk_below (blk_alloc (blk_alloc (blk_new w _) _) _) hb2); have BN := Aside0.mk (blk_below (new_at (g := w.heap.size + 1 + 1) (by simp only [World.size_alloc])) hb2); have BM := Aside0.mk (blk_below (blk_alloc (new_at (g := w.heap.size + 1) (by simp only [World.size_alloc])) _) hb2); have hg0 := blk_cell BG.out 0; have hg1 := blk_cell BG.out 1; have hf0 := blk_frozen BG.out 0; have hf1 := blk_frozen BG.out 1; have hn0 := blk_cell BN.out 0; have hn1 := blk_cell BN.out 1; have hsz2 : w.heap.size + 1 + 1 < w2.heap.size := blk_lt BN.out; have hsz1 : w.heap.size < w2.heap.size := blk_lt BG.out; have HB2 := Aside0.mk (below_step (below_alloc (below_alloc (below_alloc (Below.refl w.heap.size w) _) _) _) hb2); have HRA := Aside0.mk (child7 (b0 := w.heap.size) hR (by simp only [World.size_alloc]; omega)); clear hR hb2 hp))
              refine bodyPost_ret (results_ct rfl _ _ w.heap.size 44 _ (0, 0) _ rfl (blk_alloc (blk_put (blk_put BG3.out 0 (.int .u8 48) rfl) 1 (.slice (some ⟨w.heap.size + 1, 0, none⟩) 0 0) rfl) _) Try.underlying44 rfl (by kernel_rfl)) rfl ?_
              exact no7_post s.size w _ (gb := w.heap.size + 1) rfl (blk_alloc (blk_far (blk_far BM3.out (by show w.heap.size + 1 ≠ w.heap.size; omega) _) (by show w.heap.size + 1 ≠ w.heap.size; omega) _) _) (by omega) (below_alloc (below_set (below_set HB3.out (Nat.le_refl _)) (Nat.le_refl _)) _)
          | cons e41 r3 =>
            obtain ⟨E, hE⟩ : ∃ E, s.size - (r3.length + 1) = E := ⟨_, rfl⟩
            rw [List.length_cons] at hy3 hy4
            rw [hE] at hy3
            have hEn : E < s.size := by omega
            have hEs := at_drop hy3 hEn
            have hE1 : (E : Int) < (s.size : Int) := by omega
            have hE0 : ((E : Int) == 0) = false := by rw [beq_eq_false_iff_ne]; omega
            have HE := Aside0.mk hE
            have hE2 : (E : Int) ≤ 100 := by omega
            have HEE := Aside0.mk (show s.size - r3.length = E + 1 by omega)
            clear hy3 hy4 hMi hE
            by_cases h41 : e41 = 41
            · subst h41
              have HTW : ∀ d, two7 a d (b, some (41 :: r3)) = (Tm.two d a b, some r3) := fun d => by show (if (41 : UInt8) = 41 then _ else no7) = _; exact if_pos rfl
              rw [HTW]
              clear HTW
              rcases hdc with rfl | rfl | rfl
              · go_enter Try.func40, Try.ntmps40
                go_wp2_with (first
                  | (go_at_call 40; have _tok := HB2; refine (HI2 _).out.mono ?_; rintro e9 w3 hp2; obtain ⟨v2, rfl, hR2, hb3⟩ := post7_at hp2 (m := (E : Int)) (by show ((s.size - (r3.length + 1) : Nat) : Int) = _; rw [HE.out]); obtain ⟨A2, cc2, rfl⟩ := Kd.R_slice hR2; have BG3 := Aside0.mk (blk_below (blk_alloc BG.out _) hb3); have BN3 := Aside0.mk (blk_below (blk_alloc BN.out _) hb3); have BM3 := Aside0.mk (blk_below (blk_alloc BM.out _) hb3); have BA3 := Aside0.mk (blk_below (new_at (W := w2) (g := w2.heap.size) rfl) hb3); clear hg0 hg1 hf0 hf1 hn0 hn1; have hg0 := blk_cell BG3.out 0; have hg1 := blk_cell BG3.out 1; have hf0 := blk_frozen BG3.out 0; have hf1 := blk_frozen BG3.out 1; have hn0 := blk_cell BN3.out 0; have hn1 := blk_cell BN3.out 1; have ha0 := blk_cell BA3.out 0; have ha1 := blk_cell BA3.out 1; have hsz4 : w.heap.size + 1 + 1 < w3.heap.size := blk_lt BN3.out; have hsz3 : w.heap.size < w3.heap.size := blk_lt BG3.out; have hsz5 : w2.heap.size < w3.heap.size := blk_lt BA3.out; have HB3 := Aside0.mk (below_step (below_alloc HB2.out _) hb3); have HRA3 := Aside0.mk (Kd.R_below (Kd.R_alloc HRA.out (.cells #[.int .u8 a.S.f0, .slice A a.S.f1.length cc] 44)) hb3); have HRB := Aside0.mk (child7 (b0 := w.heap.size) hR2 (by simp only [World.size_alloc]; omega)); clear hR2 hb3 hp2 _tok)
                  | (go_at_call 40; refine (HI _).out.mono ?_; rintro e w2 hp; obtain ⟨v, rfl, hR, hb2⟩ := post7_at hp (m := (M : Int)) (by show ((s.size - (r1.length + 1) : Nat) : Int) = _; rw [HM.out]); obtain ⟨A, cc, rfl⟩ := Kd.R_slice hR; have BG := Aside0.mk (blk_below (blk_alloc (blk_alloc (blk_new w _) _) _) hb2); have BN := Aside0.mk (blk_below (new_at (g := w.heap.size + 1 + 1) (by simp only [World.size_alloc])) hb2); have BM := Aside0.mk (blk_below (blk_alloc (new_at (g := w.heap.size + 1) (by simp only [World.size_alloc])) _) hb2); have hg0 := blk_cell BG.out 0; have hg1 := blk_cell BG.out 1; have hf0 := blk_frozen BG.out 0; have hf1 := blk_frozen BG.out 1; have hn0 := blk_cell BN.out 0; have hn1 := blk_cell BN.out 1; have hsz2 : w.heap.size + 1 + 1 < w2.heap.size := blk_lt BN.out; have hsz1 : w.heap.size < w2.heap.size := blk_lt BG.out; have HB2 := Aside0.mk (below_step (below_alloc (below_alloc (below_alloc (Below.refl w.heap.size w) _) _) _) hb2); have HRA := Aside0.mk (child7 (b0 := w.heap.size) hR (by simp only [World.size_alloc]; omega)); clear hR hb2 hp))
                have hdd : w2.heap.size < w3.heap.size := hsz5
                go_region
                go_wp2_with fail
                have BE := Aside0.mk (blk_put (blk_put BG3.out 0 (.int .u8 43) rfl) 1 (.slice (some ⟨w3.heap.size + 1, 0, none⟩) 2 2) rfl)
                refine bodyPost_ret (results_ct rfl _ _ w.heap.size 44 _ (0, 0) _ rfl (blk_drew (blk_alloc (blk_alloc BE.out _) _)) Try.underlying44 rfl (by kernel_rfl)) rfl ?_
                refine ⟨.slice (some ⟨w3.heap.size + 1, 0, none⟩) 2 2, ret7 (i := E + 1) HEE.out rfl (by simp), ?_, below_drew1 (below_alloc (below_alloc (below_set (below_set HB3.out (Nat.le_refl _)) (Nat.le_refl _)) _) _)⟩
                refine Kd.R_drew (R7_of (xs := [a.S, b.S]) (g := w3.heap.size + 1) (by omega) (new_at (by simp [World.size_alloc])) (by simp) (reps_2 (k44_mkM _ _ _ a.S (Kd.R_mono (Kd.R_alloc (Kd.R_alloc (Kd.R_far (p := ⟨w.heap.size, 1, none⟩) (Kd.R_far (p := ⟨w.heap.size, 0, none⟩) HRA3.out ?_ _) ?_ _) _) _) ?_)) (k44_mkM _ _ _ b.S (Kd.R_mono (Kd.R_alloc (Kd.R_alloc (Kd.R_far (p := ⟨w.heap.size, 1, none⟩) (Kd.R_far (p := ⟨w.heap.size, 0, none⟩) HRB.out ?_ _) ?_ _) _) _) ?_))))
                all_goals (intro k hk; first | (show k ≠ w.heap.size; omega) | (refine ⟨trivial, ?_⟩; simp only [Value.ownBlock, ne_eq, Option.some.injEq]; omega))
              · go_enter Try.func40, Try.ntmps40
                go_wp2_with (first
                  | (go_at_call 40; have _tok := HB2; refine (HI2 _).out.mono ?_; rintro e9 w3 hp2; obtain ⟨v2, rfl, hR2, hb3⟩ := post7_at hp2 (m := (E : Int)) (by show ((s.size - (r3.length + 1) : Nat) : Int) = _; rw [HE.out]); obtain ⟨A2, cc2, rfl⟩ := Kd.R_slice hR2; have BG3 := Aside0.mk (blk_below (blk_alloc BG.out _) hb3); have BN3 := Aside0.mk (blk_below (blk_alloc BN.out _) hb3); have BM3 := Aside0.mk (blk_below (blk_alloc BM.out _) hb3); have BA3 := Aside0.mk (blk_below (new_at (W := w2) (g := w2.heap.size) rfl) hb3); clear hg0 hg1 hf0 hf1 hn0 hn1; have hg0 := blk_cell BG3.out 0; have hg1 := blk_cell BG3.out 1; have hf0 := blk_frozen BG3.out 0; have hf1 := blk_frozen BG3.out 1; have hn0 := blk_cell BN3.out 0; have hn1 := blk_cell BN3.out 1; have ha0 := blk_cell BA3.out 0; have ha1 := blk_cell BA3.out 1; have hsz4 : w.heap.size + 1 + 1 < w3.heap.size := blk_lt BN3.out; have hsz3 : w.heap.size < w3.heap.size := blk_lt BG3.out; have hsz5 : w2.heap.size < w3.heap.size := blk_lt BA3.out; have HB3 := Aside0.mk (below_step (below_alloc HB2.out _) hb3); have HRA3 := Aside0.mk (Kd.R_below (Kd.R_alloc HRA.out (.cells #[.int .u8 a.S.f0, .slice A a.S.f1.length cc] 44)) hb3); have HRB := Aside0.mk (child7 (b0 := w.heap.size) hR2 (by simp only [World.size_alloc]; omega)); clear hR2 hb3 hp2 _tok)
                  | (go_at_call 40; refine (HI _).out.mono ?_; rintro e w2 hp; obtain ⟨v, rfl, hR, hb2⟩ := post7_at hp (m := (M : Int)) (by show ((s.size - (r1.length + 1) : Nat) : Int) = _; rw [HM.out]); obtain ⟨A, cc, rfl⟩ := Kd.R_slice hR; have BG := Aside0.mk (blk_below (blk_alloc (blk_alloc (blk_new w _) _) _) hb2); have BN := Aside0.mk (blk_below (new_at (g := w.heap.size + 1 + 1) (by simp only [World.size_alloc])) hb2); have BM := Aside0.mk (blk_below (blk_alloc (new_at (g := w.heap.size + 1) (by simp only [World.size_alloc])) _) hb2); have hg0 := blk_cell BG.out 0; have hg1 := blk_cell BG.out 1; have hf0 := blk_frozen BG.out 0; have hf1 := blk_frozen BG.out 1; have hn0 := blk_cell BN.out 0; have hn1 := blk_cell BN.out 1; have hsz2 : w.heap.size + 1 + 1 < w2.heap.size := blk_lt BN.out; have hsz1 : w.heap.size < w2.heap.size := blk_lt BG.out; have HB2 := Aside0.mk (below_step (below_alloc (below_alloc (below_alloc (Below.refl w.heap.size w) _) _) _) hb2); have HRA := Aside0.mk (child7 (b0 := w.heap.size) hR (by simp only [World.size_alloc]; omega)); clear hR hb2 hp))
                have hdd : w2.heap.size < w3.heap.size := hsz5
                go_region
                go_wp2_with fail
                have BE := Aside0.mk (blk_put (blk_put BG3.out 0 (.int .u8 46) rfl) 1 (.slice (some ⟨w3.heap.size + 1, 0, none⟩) 2 2) rfl)
                refine bodyPost_ret (results_ct rfl _ _ w.heap.size 44 _ (0, 0) _ rfl (blk_drew (blk_alloc (blk_alloc BE.out _) _)) Try.underlying44 rfl (by kernel_rfl)) rfl ?_
                refine ⟨.slice (some ⟨w3.heap.size + 1, 0, none⟩) 2 2, ret7 (i := E + 1) HEE.out rfl (by simp), ?_, below_drew1 (below_alloc (below_alloc (below_set (below_set HB3.out (Nat.le_refl _)) (Nat.le_refl _)) _) _)⟩
                refine Kd.R_drew (R7_of (xs := [a.S, b.S]) (g := w3.heap.size + 1) (by omega) (new_at (by simp [World.size_alloc])) (by simp) (reps_2 (k44_mkM _ _ _ a.S (Kd.R_mono (Kd.R_alloc (Kd.R_alloc (Kd.R_far (p := ⟨w.heap.size, 1, none⟩) (Kd.R_far (p := ⟨w.heap.size, 0, none⟩) HRA3.out ?_ _) ?_ _) _) _) ?_)) (k44_mkM _ _ _ b.S (Kd.R_mono (Kd.R_alloc (Kd.R_alloc (Kd.R_far (p := ⟨w.heap.size, 1, none⟩) (Kd.R_far (p := ⟨w.heap.size, 0, none⟩) HRB.out ?_ _) ?_ _) _) _) ?_))))
                all_goals (intro k hk; first | (show k ≠ w.heap.size; omega) | (refine ⟨trivial, ?_⟩; simp only [Value.ownBlock, ne_eq, Option.some.injEq]; omega))
              · go_enter Try.func40, Try.ntmps40
                go_wp2_with (first
                  | (go_at_call 40; have _tok := HB2; refine (HI2 _).out.mono ?_; rintro e9 w3 hp2; obtain ⟨v2, rfl, hR2, hb3⟩ := post7_at hp2 (m := (E : Int)) (by show ((s.size - (r3.length + 1) : Nat) : Int) = _; rw [HE.out]); obtain ⟨A2, cc2, rfl⟩ := Kd.R_slice hR2; have BG3 := Aside0.mk (blk_below (blk_alloc BG.out _) hb3); have BN3 := Aside0.mk (blk_below (blk_alloc BN.out _) hb3); have BM3 := Aside0.mk (blk_below (blk_alloc BM.out _) hb3); have BA3 := Aside0.mk (blk_below (new_at (W := w2) (g := w2.heap.size) rfl) hb3); clear hg0 hg1 hf0 hf1 hn0 hn1; have hg0 := blk_cell BG3.out 0; have hg1 := blk_cell BG3.out 1; have hf0 := blk_frozen BG3.out 0; have hf1 := blk_frozen BG3.out 1; have hn0 := blk_cell BN3.out 0; have hn1 := blk_cell BN3.out 1; have ha0 := blk_cell BA3.out 0; have ha1 := blk_cell BA3.out 1; have hsz4 : w.heap.size + 1 + 1 < w3.heap.size := blk_lt BN3.out; have hsz3 : w.heap.size < w3.heap.size := blk_lt BG3.out; have hsz5 : w2.heap.size < w3.heap.size := blk_lt BA3.out; have HB3 := Aside0.mk (below_step (below_alloc HB2.out _) hb3); have HRA3 := Aside0.mk (Kd.R_below (Kd.R_alloc HRA.out (.cells #[.int .u8 a.S.f0, .slice A a.S.f1.length cc] 44)) hb3); have HRB := Aside0.mk (child7 (b0 := w.heap.size) hR2 (by simp only [World.size_alloc]; omega)); clear hR2 hb3 hp2 _tok)
                  | (go_at_call 40; refine (HI _).out.mono ?_; rintro e w2 hp; obtain ⟨v, rfl, hR, hb2⟩ := post7_at hp (m := (M : Int)) (by show ((s.size - (r1.length + 1) : Nat) : Int) = _; rw [HM.out]); obtain ⟨A, cc, rfl⟩ := Kd.R_slice hR; have BG := Aside0.mk (blk_below (blk_alloc (blk_alloc (blk_new w _) _) _) hb2); have BN := Aside0.mk (blk_below (new_at (g := w.heap.size + 1 + 1) (by simp only [World.size_alloc])) hb2); have BM := Aside0.mk (blk_below (blk_alloc (new_at (g := w.heap.size + 1) (by simp only [World.size_alloc])) _) hb2); have hg0 := blk_cell BG.out 0; have hg1 := blk_cell BG.out 1; have hf0 := blk_frozen BG.out 0; have hf1 := blk_frozen BG.out 1; have hn0 := blk_cell BN.out 0; have hn1 := blk_cell BN.out 1; have hsz2 : w.heap.size + 1 + 1 < w2.heap.size := blk_lt BN.out; have hsz1 : w.heap.size < w2.heap.size := blk_lt BG.out; have HB2 := Aside0.mk (below_step (below_alloc (below_alloc (below_alloc (Below.refl w.heap.size w) _) _) _) hb2); have HRA := Aside0.mk (child7 (b0 := w.heap.size) hR (by simp only [World.size_alloc]; omega)); clear hR hb2 hp))
                have hdd : w2.heap.size < w3.heap.size := hsz5
                go_region
                go_wp2_with fail
                have BE := Aside0.mk (blk_put (blk_put BG3.out 0 (.int .u8 38) rfl) 1 (.slice (some ⟨w3.heap.size + 1, 0, none⟩) 2 2) rfl)
                refine bodyPost_ret (results_ct rfl _ _ w.heap.size 44 _ (0, 0) _ rfl (blk_drew (blk_alloc (blk_alloc BE.out _) _)) Try.underlying44 rfl (by kernel_rfl)) rfl ?_
                refine ⟨.slice (some ⟨w3.heap.size + 1, 0, none⟩) 2 2, ret7 (i := E + 1) HEE.out rfl (by simp), ?_, below_drew1 (below_alloc (below_alloc (below_set (below_set HB3.out (Nat.le_refl _)) (Nat.le_refl _)) _) _)⟩
                refine Kd.R_drew (R7_of (xs := [a.S, b.S]) (g := w3.heap.size + 1) (by omega) (new_at (by simp [World.size_alloc])) (by simp) (reps_2 (k44_mkM _ _ _ a.S (Kd.R_mono (Kd.R_alloc (Kd.R_alloc (Kd.R_far (p := ⟨w.heap.size, 1, none⟩) (Kd.R_far (p := ⟨w.heap.size, 0, none⟩) HRA3.out ?_ _) ?_ _) _) _) ?_)) (k44_mkM _ _ _ b.S (Kd.R_mono (Kd.R_alloc (Kd.R_alloc (Kd.R_far (p := ⟨w.heap.size, 1, none⟩) (Kd.R_far (p := ⟨w.heap.size, 0, none⟩) HRB.out ?_ _) ?_ _) _) _) ?_))))
                all_goals (intro k hk; first | (show k ≠ w.heap.size; omega) | (refine ⟨trivial, ?_⟩; simp only [Value.ownBlock, ne_eq, Option.some.injEq]; omega))
            · have hne : ((e41.toNat : Int) == 41) = false ∧ ((e41.toNat : Int) != 41) = true := by
                have q : (e41.toNat : Int) ≠ 41 := fun h => h41 (UInt8.toNat_inj.1 (show e41.toNat = (41 : UInt8).toNat from by have : ((41 : UInt8).toNat : Int) = 41 := rfl; omega))
                exact ⟨by rw [beq_eq_false_iff_ne]; exact q, by rw [bne_iff_ne]; exact q⟩
              obtain ⟨e1, e2⟩ := hne
              have HO : ∀ d, two7 a d (b, some (e41 :: r3)) = no7 := fun d => by show (if e41 = 41 then _ else no7) = no7; rw [if_neg h41]
              rw [HO]
              clear HO h41
              rcases hdc with rfl | rfl | rfl
              all_goals
                go_enter Try.func40, Try.ntmps40
                go_wp2_with (first
                  | (go_at_call 40; have _tok := HB2; refine (HI2 _).out.mono ?_; rintro e9 w3 hp2; obtain ⟨v2, rfl, hR2, hb3⟩ := post7_at hp2 (m := (E : Int)) (by show ((s.size - (r3.length + 1) : Nat) : Int) = _; rw [HE.out]); obtain ⟨A2, cc2, rfl⟩ := Kd.R_slice hR2; have BG3 := Aside0.mk (blk_below (blk_alloc BG.out _) hb3); have BN3 := Aside0.mk (blk_below (blk_alloc BN.out _) hb3); have BM3 := Aside0.mk (blk_below (blk_alloc BM.out _) hb3); have BA3 := Aside0.mk (blk_below (new_at (W := w2) (g := w2.heap.size) rfl) hb3); clear hg0 hg1 hf0 hf1 hn0 hn1; have hg0 := blk_cell BG3.out 0; have hg1 := blk_cell BG3.out 1; have hf0 := blk_frozen BG3.out 0; have hf1 := blk_frozen BG3.out 1; have hn0 := blk_cell BN3.out 0; have hn1 := blk_cell BN3.out 1; have ha0 := blk_cell BA3.out 0; have ha1 := blk_cell BA3.out 1; have hsz4 : w.heap.size + 1 + 1 < w3.heap.size := blk_lt BN3.out; have hsz3 : w.heap.size < w3.heap.size := blk_lt BG3.out; have hsz5 : w2.heap.size < w3.heap.size := blk_lt BA3.out; have HB3 := Aside0.mk (below_step (below_alloc HB2.out _) hb3); have HRA3 := Aside0.mk (Kd.R_below (Kd.R_alloc HRA.out (.cells #[.int .u8 a.S.f0, .slice A a.S.f1.length cc] 44)) hb3); have HRB := Aside0.mk (child7 (b0 := w.heap.size) hR2 (by simp only [World.size_alloc]; omega)); clear hR2 hb3 hp2 _tok)
                  | (go_at_call 40; refine (HI _).out.mono ?_; rintro e w2 hp; obtain ⟨v, rfl, hR, hb2⟩ := post7_at hp (m := (M : Int)) (by show ((s.size - (r1.length + 1) : Nat) : Int) = _; rw [HM.out]); obtain ⟨A, cc, rfl⟩ := Kd.R_slice hR; have BG := Aside0.mk (blk_below (blk_alloc (blk_alloc (blk_new w _) _) _) hb2); have BN := Aside0.mk (blk_below (new_at (g := w.heap.size + 1 + 1) (by simp only [World.size_alloc])) hb2); have BM := Aside0.mk (blk_below (blk_alloc (new_at (g := w.heap.size + 1) (by simp only [World.size_alloc])) _) hb2); have hg0 := blk_cell BG.out 0; have hg1 := blk_cell BG.out 1; have hf0 := blk_frozen BG.out 0; have hf1 := blk_frozen BG.out 1; have hn0 := blk_cell BN.out 0; have hn1 := blk_cell BN.out 1; have hsz2 : w.heap.size + 1 + 1 < w2.heap.size := blk_lt BN.out; have hsz1 : w.heap.size < w2.heap.size := blk_lt BG.out; have HB2 := Aside0.mk (below_step (below_alloc (below_alloc (below_alloc (Below.refl w.heap.size w) _) _) _) hb2); have HRA := Aside0.mk (child7 (b0 := w.heap.size) hR (by simp only [World.size_alloc]; omega)); clear hR hb2 hp))
                refine bodyPost_ret (results_ct rfl _ _ w.heap.size 44 _ (0, 0) _ rfl (blk_alloc (blk_put (blk_put BG3.out 0 (.int .u8 48) rfl) 1 (.slice (some ⟨w.heap.size + 1, 0, none⟩) 0 0) rfl) _) Try.underlying44 rfl (by kernel_rfl)) rfl ?_
                exact no7_post s.size w _ (gb := w.heap.size + 1) rfl (blk_alloc (blk_far (blk_far BM3.out (by show w.heap.size + 1 ≠ w.heap.size; omega) _) (by show w.heap.size + 1 ≠ w.heap.size; omega) _) _) (by omega) (below_alloc (below_set (below_set HB3.out (Nat.le_refl _)) (Nat.le_refl _)) _)
end Go.Proofs.Ytjjnckgdpdelkaa.P

-- spec.l7Read from its cases.
namespace Go.Proofs.Ytjjnckgdpdelkaa.P
open Go.RowKit Go.Proofs.YtjjnckgdpdelkaaW.PrintWords Go.Proofs.YtjjnckgdpdelkaaW.PrintLast Go.Proofs.YtjjnckgdpdelkaaW.PrintMore
set_option linter.unusedVariables false
set_option linter.unusedSimpArgs false

theorem rd7_tail {k : Nat} {s r : List UInt8} (h : (rd7 k s).2 = some r) : ∃ p : List UInt8, s = p ++ r ∧ 0 < p.length := by
  cases hp : prs k s with
  | none => rw [(rd7_prs k s).2 hp] at h; cases h
  | some x =>
    obtain ⟨t, r'⟩ := x
    rw [(rd7_prs k s).1 t r' hp] at h
    simp only [Option.some.injEq] at h
    subst h
    exact ⟨t.txt, (prs_spec k s hp).2, txt_pos t⟩
theorem tail_at {s : ByteArray} {i k : Nat} {r : List UInt8} (h : (rd7 k ((chrs s).drop i)).2 = some r) : (chrs s).drop (s.size - r.length) = r ∧ r.length + i < s.size := by
  obtain ⟨p, hp, hp0⟩ := rd7_tail h
  have hl := congrArg List.length hp
  rw [List.length_drop, chrs_length, List.length_append] at hl
  refine ⟨?_, by omega⟩
  rw [show s.size - r.length = i + p.length by omega, ← List.drop_drop, hp, List.drop_left]
theorem read7_all (s : ByteArray) (hs : s.size ≤ 100) : ∀ (k i : Nat), i ≤ s.size → s.size - i < k → ∀ w, Calls Try.prog 40 #[.string s, .int .i64 (i : Nat)] w (Post7 (rd7 k ((chrs s).drop i)) s.size w)
  | 0, i, _, h, _ => by omega
  | k + 1, i, hi, h, w => by
    cases hc : (chrs s).drop i with
    | nil =>
      have : s.size ≤ i := by
        have := congrArg List.length hc
        rw [List.length_drop, chrs_length, List.length_nil] at this
        omega
      exact read7_end s hs i this w
    | cons c r =>
      have hlt : i < s.size := by
        have := congrArg List.length hc
        rw [List.length_drop, chrs_length, List.length_cons] at this
        omega
      have hdr : (chrs s).drop (i + 1) = r := by rw [← List.drop_drop, hc]; rfl
      unfold rd7
      have IH : ∀ w', Calls Try.prog 40 #[.string s, .int .i64 (i + 1 : Nat)] w' (Post7 (rd7 k r) s.size w') := fun w' => by
        have := read7_all s hs k (i + 1) (by omega) (by omega) w'
        rwa [hdr] at this
      by_cases hL : isL c = true
      · rw [if_pos hL]; exact read7_leaf s hs i c r hc hL w
      · rw [if_neg hL]
        by_cases hO : isO c = true
        · rw [if_pos hO]
          exact read7_one s hs i c r hc hO (rd7 k r) IH w
        · rw [if_neg hO]
          by_cases h40 : c = 40
          · subst h40
            rw [if_pos rfl]
            refine read7_two s hs i r hc (rd7 k r) (rd7 k) IH (fun r' h' => ?_) (fun j w' hij hj => read7_all s hs k j hj (by omega) w') (fun j r' hij h' => ?_) w
            · have := tail_at (s := s) (i := i + 1) (k := k) (r := r') (by rw [hdr]; exact h')
              exact ⟨this.1, by omega⟩
            · have := tail_at h'
              exact ⟨this.1, by omega⟩
          · rw [if_neg h40]
            exact read7_other s hs i c r hc (by simpa using hL) (by simpa using hO) h40 w
def spec_l7Read.f (a0 : ByteArray) (a1 : Int) : Option (Int × List S44 × Int) :=
  if a0.size ≤ 100 ∧ 0 ≤ a1 ∧ a1 ≤ a0.size then some ((rd7 (a0.size + 1) ((chrs a0).drop a1.toNat)).1.S.f0, (rd7 (a0.size + 1) ((chrs a0).drop a1.toNat)).1.S.f1, ((end7 a0.size (rd7 (a0.size + 1) ((chrs a0).drop a1.toNat)).2 : Nat) : Int)) else none
theorem spec_l7Read.calls (a0 : ByteArray) (a1 : Int) (r1 : Int) (r2 : List S44) (r3 : Int) (w : World) (h : spec_l7Read.f a0 a1 = some (r1, r2, r3)) :
    Calls Try.prog 40 #[.string a0, .int .i64 a1] w fun e w' => ∃ v1_ : Value, e = .returned (.tuple #[.agg #[.int .u8 r1, v1_], .int .i64 r3]) ∧ Kd.R k44 44 w' w.heap.size (fun _ => True) v1_ r2 ∧ Below w.heap.size w w' := by
  unfold spec_l7Read.f at h
  by_cases hc : a0.size ≤ 100 ∧ 0 ≤ a1 ∧ a1 ≤ a0.size
  · rw [if_pos hc] at h
    simp only [Option.some.injEq, Prod.mk.injEq] at h
    obtain ⟨rfl, rfl, rfl⟩ := h
    have := read7_all a0 hc.1 (a0.size + 1) a1.toNat (by omega) (by omega) w
    rw [show ((a1.toNat : Nat) : Int) = a1 by omega] at this
    exact this
  · rw [if_neg hc] at h; cases h
end Go.Proofs.Ytjjnckgdpdelkaa.P

-- impl.termOf: the term of a text.
namespace Go.Proofs.Ytjjnckgdpdelkaa.P
open Go.RowKit Go.Proofs.YtjjnckgdpdelkaaW.PrintWords Go.Proofs.YtjjnckgdpdelkaaW.PrintLast Go.Proofs.YtjjnckgdpdelkaaW.PrintMore
set_option linter.unusedVariables false
set_option linter.unusedSimpArgs false

theorem parse_all : ∀ (k : Nat) (s : ByteArray) (w : World), s.size < k → s.size ≤ 100 → Calls Try.prog 43 #[.string s] w (ParsePost (prs k (chrs s)) w)
  | 0, s, w, h, _ => by omega
  | k + 1, s, w, h, hs => by
    cases hc : chrs s with
    | nil => exact parse_empty s hc w
    | cons c r =>
      have hl : s.size = r.length + 1 := by rw [← chrs_length, hc]; rfl
      cases h1 : isL c with
      | true => rw [prs_leaf h1]; exact parse_leaf s hs c r hc h1 k w
      | false =>
        cases h2 : isO c with
        | true =>
          rw [prs_one h2]
          refine parse_one k s hs c r hc h2 (fun s' w' h' => ?_) w
          have : s'.size = r.length := by rw [← chrs_length, h']
          exact parse_all k s' w' (by omega) (by omega)
        | false =>
          by_cases h3 : c = 40
          · subst h3
            rw [prs_two]
            exact parse_two k s hs r hc (fun s' w' h' => parse_all k s' w' (by omega) (by omega)) w
          · rw [prs_other h1 h2 h3]
            exact parse_other s hs c r hc h1 h2 h3 w
/-- What impl.termOf does. -/
def TermPost (o : Option Tm) (w : World) (e : Ending) (w' : World) : Prop := match o with
  | none => e = .returned (.pointer none) ∧ Below w.heap.size w w'
  | some t => (∃ b, e = .returned (.pointer (some ⟨b, 0, none⟩)) ∧ IT w' t (some ⟨b, 0, none⟩)) ∧ Below w.heap.size w w'

set_option maxHeartbeats 8000000 in
set_option maxRecDepth 100000 in
theorem termOf_calls (s : ByteArray) (hs : s.size ≤ 70368744177664) (w : World) :
    Calls Try.prog 29 #[.string s] w (TermPost (trm (chrs s)) w) := by
  by_cases h60 : s.size ≤ 60
  · have HP := fun w => Aside0.mk (parse_all (s.size + 1) s w (by omega) (by omega))
    have ht : trm (chrs s) = trmO (prs (s.size + 1) (chrs s)) := by
      unfold trm; rw [chrs_length, if_pos h60]
    cases hp : prs (s.size + 1) (chrs s) with
    | none =>
      rw [hp] at HP ht
      rw [ht]
      clear ht hp
      go_enter Try.func29, Try.ntmps29
      go_wp2_with (go_at_call 43; refine (HP _).out.mono ?_; rintro e w2 ⟨rfl, hb2⟩; have HB := Aside0.mk hb2; clear hb2)
      go_ret
      exact ⟨rfl, HB.out⟩
    | some x =>
      obtain ⟨t, r⟩ := x
      rw [hp] at HP ht
      rw [ht]
      clear ht hp
      cases r with
      | nil =>
        go_enter Try.func29, Try.ntmps29
        go_wp2_with (go_at_call 43; refine (HP _).out.mono ?_; rintro e w2 ⟨⟨p, L, rfl, hL, hIT⟩, hb2⟩; obtain ⟨b2, rfl, hlt2⟩ := (hIT w2 (Kept.refl _ _)).some; have HB := Aside0.mk hb2; have HT := Aside0.mk (hIT w2 (Kept.refl _ _)); have hLe : L.toList = [] := (ByteArray.toList_eq L).trans hL; clear hb2 hIT hL hlt2)
        go_ret
        exact ⟨⟨_, rfl, HT.out⟩, HB.out⟩
      | cons d r1 =>
        go_enter Try.func29, Try.ntmps29
        go_wp2_with (go_at_call 43; refine (HP _).out.mono ?_; rintro e w2 ⟨⟨p, L, rfl, hL, hIT⟩, hb2⟩; have HB := Aside0.mk hb2; have hLn := toList_ne (s := L) (by rw [← chrs_length, hL]; simp); have hLm : !L.toList.isEmpty := (by rw [hLn]; rfl); clear hb2 hIT hL)
        go_ret
        exact ⟨rfl, HB.out⟩
  · have ht : trm (chrs s) = none := by unfold trm; rw [chrs_length, if_neg h60]
    rw [ht]
    have h6 : ¬ ((s.size : Int) ≤ 60) := by omega
    clear ht
    go_enter Try.func29, Try.ntmps29
    go_wp2_with fail
    go_ret
    exact ⟨rfl, Below.refl _ _⟩
end Go.Proofs.Ytjjnckgdpdelkaa.P

-- impl.TermList.
namespace Go.Proofs.Ytjjnckgdpdelkaa.P
open Go.RowKit Go.Proofs.YtjjnckgdpdelkaaW.PrintWords Go.Proofs.YtjjnckgdpdelkaaW.PrintLast Go.Proofs.YtjjnckgdpdelkaaW.PrintMore
set_option linter.unusedVariables false
set_option linter.unusedSimpArgs false

/-- The numbers less than n of which a question holds. -/
def lstq (f : Nat → Bool) (n : Nat) : List Int := ((List.range n).filter f).map Int.ofNat
theorem lstq_succ (f : Nat → Bool) (n : Nat) : lstq f (n + 1) = if f n = true then lstq f n ++ [(n : Int)] else lstq f n := by
  unfold lstq
  rw [List.range_succ, List.filter_append, List.map_append]
  cases h : f n with
  | true => rw [if_pos rfl, List.filter_cons_of_pos (by rw [h])]; rfl
  | false => rw [if_neg (by decide), List.filter_cons_of_neg (by rw [h]; decide)]; simp
theorem lstq_length (f : Nat → Bool) (n : Nat) : (lstq f n).length ≤ n := by
  unfold lstq
  rw [List.length_map]
  have := List.length_filter_le f (List.range n)
  rw [List.length_range] at this; exact this
/-- What TermList answers. -/
noncomputable def trl (s : List UInt8) (n : Int) : List Int × Bool := match trm s with
  | none => ([], false)
  | some t => if 0 ≤ n ∧ n ≤ 200 then (lstq (tsem t) n.toNat, true) else ([], false)
noncomputable def impl_TermList.f (s : ByteArray) (n : Int) : Option (List Int × Bool) := if s.size ≤ 70368744177664 then some (trl (chrs s) n) else none
theorem termList_f (s : ByteArray) (n : Int) (hs : s.size ≤ 70368744177664) : impl_TermList.f s n = some (trl (chrs s) n) := by unfold impl_TermList.f; rw [if_pos hs]

set_option maxRecDepth 100000 in
theorem run_sliceA (ev : Operand → Value) (W : World) (d : Option Tmp) (p : String) (af : Array Edge) (g : Option (Nat × Bool)) (x y : Operand) (ty : TypeId) (b m : Nat) (hm : m ≤ 201) (hx : ev x = .pointer (some ⟨b, 0, none⟩)) (hy : ev y = .int .i64 m) :
    (execOp ev { dst := d, op := .slice 70 x none (some y) none, type := ty, pos := p, after := af, guard := g }).run Try.prog W = .ok (.value (.slice (some ⟨b, 0, none⟩) m 201)) W := by
  have hl : Try.prog.arrayLen 70 = 201 := by kernel_rfl
  have hu : Try.prog.underlying 70 = some (.array (Try.prog.arrayLen 70) (Try.prog.elem 70)) := by kernel_rfl
  have hz : ((sizeOf (Try.prog.elem 70)).run Try.prog W) = .ok 1 W := by kernel_rfl
  have e := run_sliceAt_array_h (P := Try.prog) W 70 ⟨b, 0, none⟩ hu .i64 (m : Int) (by omega) (by rw [hl]; omega)
  rw [hz, hl] at e
  have e2 : (Instr.sliceAt 70 (.pointer (some ⟨b, 0, none⟩)) none (some (.int .i64 (m : Int))) none).run Try.prog W = .ok (.slice (some ⟨b, 0, none⟩) m 201) W := by
    rw [e]
    simp [slicedAt, Addr.add, go_sem]
  clear e hz hu hl
  simp only [execOp, Option.map_none, Option.map_some, hx, hy]
  simp [go_sem, e2]
set_option maxHeartbeats 8000000 in
set_option maxRecDepth 100000 in
theorem impl_TermList.calls (s : ByteArray) (n : Int) (r1 : List Int) (r2 : Bool) (w : World) (h : impl_TermList.f s n = some (r1, r2)) :
    Calls Try.prog 15 #[.string s, .int .i64 n] w fun e w' => ∃ v0_ : Value, e = .returned (.tuple #[v0_, .bool r2]) ∧ Kd.R (Kd.int .i64) 3 w' w.heap.size (fun _ => True) v0_ r1 ∧ Below w.heap.size w w' := by
  unfold impl_TermList.f at h
  split at h
  rotate_left
  · cases h
  rename_i hs
  simp only [Option.some.injEq] at h
  have HT := fun w => Aside0.mk (termOf_calls s hs w)
  unfold trl at h
  cases ht : trm (chrs s) with
  | none =>
    rw [ht] at HT h
    obtain ⟨rfl, rfl⟩ : r1 = [] ∧ r2 = false := by simpa using h.symm
    clear ht h
    go_enter Try.func15, Try.ntmps15
    go_wp2_with (go_at_call 29; refine (HT _).out.mono ?_; rintro e w1 ⟨rfl, hb1⟩; have HB := Aside0.mk hb1; clear hb1)
    go_ret2
    exact ⟨_, rfl, Kd.R_nil _ _ _ _ _, HB.out⟩
  | some t =>
    obtain ⟨_, hok, _, _⟩ := trm_some ht
    have HN := fun w p h => Aside0.mk (numbers_all t hok p w h)
    rw [ht] at HT h
    clear ht hok
    by_cases hn : 0 ≤ n ∧ n ≤ 200
    · obtain ⟨m, rfl⟩ := Int.eq_ofNat_of_zero_le hn.1
      have hin := in_f (m : Int) 0 200
      rw [decide_eq_true hn] at hin
      obtain ⟨rfl, rfl⟩ : r1 = lstq (tsem t) m ∧ r2 = true := by
        have h' : (if 0 ≤ (m : Int) ∧ (m : Int) ≤ 200 then (lstq (tsem t) (m : Int).toNat, true) else ([], false)) = (r1, r2) := h
        rw [if_pos hn, Int.toNat_natCast] at h'
        simpa using h'.symm
      have HI := fun w => Aside0.mk (impl_in.calls (m : Int) 0 200 true w hin)
      have hm : m ≤ 200 := by omega
      have hm2 : (m : Int) ≤ 200 := by omega
      clear hin hn h
      generalize tsem t = f at *
      go_enter Try.func15, Try.ntmps15
      go_wp2_with (first
        | (go_at_call 29; refine (HT _).out.mono ?_; rintro e w1 ⟨⟨b, rfl, hIT⟩, hb1⟩; have HB := Aside0.mk hb1; have HIT := Aside0.mk hIT; clear hb1 hIT)
        | (go_at_call 30; refine (HI _).out.mono ?_; rintro e w2 ⟨rfl, hd⟩; have hb2 := drawn0_below hd; have HB2 := Aside0.mk (below_step HB.out hb2); have HIT2 := Aside0.mk (HIT.out.below hb2); clear hd hb2)
        | (go_at_call 31; refine (HN _ _ HIT2.out).out.mono ?_; rintro e w3 ⟨⟨g, rfl, hG, hO⟩, hb3⟩; have HB3 := Aside0.mk (below_step HB2.out hb3); have HO := Aside0.mk hO; clear hG hO hb3)
        | ((with_reducible refine gate_dst (N := 23) rfl ?_); refine Kd.event_run rfl (run_sliceA _ _ _ _ _ _ _ _ _ g m (by omega) rfl rfl) ?_))
      go_loopg [7, 25] m (fun gg s7 s25 w_ => ∃ i : Nat, i ≤ m ∧ m - i ≤ gg ∧ s25 = .int .i64 i ∧ Aside0 (Kd.R (Kd.int .i64) 3 w_ w.heap.size (fun k => k ≠ g) s7 (lstq f i)) ∧ Aside0 (w_.heap[g]? = some (.cells (numA f) 70 (0, 0))) ∧ Aside0 (Below w.heap.size w w_))
      case atStart => exact ⟨0, Nat.zero_le _, by omega, rfl, ⟨Kd.R_nil _ _ _ _ _⟩, HO, HB3⟩
      case round =>
        obtain ⟨i, hi, hgg, rfl, HR, HG, HW⟩ := hrel
        obtain ⟨A1, c1, hv⟩ := Kd.R_slice HR.out
        subst hv
        rcases Nat.lt_or_ge i m with hlt | hge
        · have hcx : wr.cell? ⟨g, i, none⟩ = some (.bool (f i)) := (blk_cell HG.out i).trans (numA_get f (by omega))
          have hsu := lstq_succ f i
          have hlen := lstq_length f i
          have him : (i : Int) < (m : Int) := by omega
          cases hfi : f i with
          | false =>
            rw [hfi] at hcx
            rw [hfi, if_neg (by decide)] at hsu
            have HSU := Aside0.mk hsu
            clear hsu hfi
            go_wp2
            go_roundg (m - (i + 1))
            case measure => omega
            case rel => exact ⟨i + 1, by omega, by omega, congrArg (Value.int .i64) (by omega), ⟨by rw [HSU.out]; exact HR.out⟩, HG, HW⟩
          | true =>
            rw [hfi] at hcx
            rw [hfi, if_pos rfl] at hsu
            have HSU := Aside0.mk hsu
            clear hsu hfi
            go_wp2_with (((with_reducible refine gate_builtin (b := .append) (xs := #[.tmp 31, .tmp 33]) rfl ?_); at_builtin; (refine Kd.R_append (Kd.int .i64) (w0 := w) w.heap.size rfl (.tmp 31) (.tmp 33) 30 3 (.int .i64 0) 8 rfl Try.underlying30 info3 rfl (by decide) (by omega) (.slice A1 (lstq f i).length c1) (lstq f i) (i : Int) [.int .i64 (i : Int)] (fun k => k ≠ g) (fun _ => False) rfl rfl ?aP (fun _ hk => hk.elim) ?aF HR.out HW.out ?aS ?aL ?_; (case aP => exact rfl); (case aF => exact fun k hk => by have := blk_lt HG.out; omega); (case aS => exact HW.out.size); (case aL => omega); intro v1 w3 ho hb hg hat; rw [← HSU.out] at ho; have RO := Aside0.mk ho; have RB := Aside0.mk hb; have RG := Aside0.mk (blk_grown HG.out hg (Kd.R_away HR.out (fun k hk => hk))); clear ho hb hg hat)))
            go_roundg (m - (i + 1))
            case measure => omega
            case rel => exact ⟨i + 1, by omega, by omega, congrArg (Value.int .i64) (by omega), RO, RG, RB⟩
        · obtain rfl : i = m := by omega
          go_wp2
          go_ret2
          exact ⟨_, rfl, Kd.R_mono HR.out (fun _ _ => trivial), HW.out⟩
    · have hin := in_f n 0 200
      rw [decide_eq_false hn] at hin
      obtain ⟨rfl, rfl⟩ : r1 = [] ∧ r2 = false := by
        have h' : (if 0 ≤ n ∧ n ≤ 200 then (lstq (tsem t) n.toNat, true) else ([], false)) = (r1, r2) := h
        rw [if_neg hn] at h'
        simpa using h'.symm
      have HI := fun w => Aside0.mk (impl_in.calls n 0 200 false w hin)
      clear hin hn h
      go_enter Try.func15, Try.ntmps15
      go_wp2_with (first
        | (go_at_call 29; refine (HT _).out.mono ?_; rintro e w1 ⟨⟨b, rfl, hIT⟩, hb1⟩; have HB := Aside0.mk hb1; clear hb1 hIT)
        | (go_at_call 30; refine (HI _).out.mono ?_; rintro e w2 ⟨rfl, hd⟩; have HB2 := Aside0.mk (below_step HB.out (drawn0_below hd)); clear hd))
      go_ret2
      exact ⟨_, rfl, Kd.R_nil _ _ _ _ _, HB2.out⟩
end Go.Proofs.Ytjjnckgdpdelkaa.P

-- impl.TermSize.
namespace Go.Proofs.Ytjjnckgdpdelkaa.P
open Go.RowKit Go.Proofs.YtjjnckgdpdelkaaW.PrintWords Go.Proofs.YtjjnckgdpdelkaaW.PrintLast Go.Proofs.YtjjnckgdpdelkaaW.PrintMore
set_option linter.unusedVariables false
set_option linter.unusedSimpArgs false

/-- How many signs a term has, brackets aside. -/
def nsz : Tm → Nat
  | .leaf _ => 1
  | .one _ t => nsz t + 1
  | .two _ t u => nsz t + nsz u + 1
def tws : Tm → Nat
  | .leaf _ => 0
  | .one _ t => tws t
  | .two _ t u => tws t + tws u + 1
theorem sign_ne {c : UInt8} (h : isL c = true ∨ isO c = true ∨ isT c = true) : c ≠ 40 ∧ c ≠ 41 := by
  constructor
  all_goals
    rintro rfl
    rcases h with h | h | h <;> exact absurd h (by decide)
theorem count_txt : ∀ t : Tm, t.ok → t.txt.count 40 = tws t ∧ t.txt.count 41 = tws t ∧ t.txt.length = nsz t + 2 * tws t
  | .leaf c, h => by
    obtain ⟨h1, h2⟩ := sign_ne (.inl h)
    simp [Tm.txt, tws, nsz, List.count_cons, h1, h2]
  | .one c t, h => by
    obtain ⟨h1, h2⟩ := sign_ne (.inr (.inl h.1))
    obtain ⟨i1, i2, i3⟩ := count_txt t h.2
    simp only [Tm.txt, tws, nsz, List.count_cons, List.length_cons, i1, i2, i3]
    refine ⟨?_, ?_, by omega⟩
    · simp [h1]
    · simp [h2]
  | .two c t u, h => by
    obtain ⟨h1, h2⟩ := sign_ne (.inr (.inr h.1))
    obtain ⟨i1, i2, i3⟩ := count_txt t h.2.1
    obtain ⟨j1, j2, j3⟩ := count_txt u h.2.2
    simp only [Tm.txt, tws, nsz, List.count_cons, List.count_append, List.length_cons, List.length_append, List.count_nil, List.length_nil, i1, i2, i3, j1, j2, j3]
    refine ⟨?_, ?_, by omega⟩
    · simp [h1] <;> omega
    · simp [h2] <;> omega
/-- The size of a text's term. -/
def trz (s : List UInt8) : Int × Bool := match trm s with
  | none => (0, false)
  | some t => ((nsz t : Int), true)
def impl_TermSize.f (s : ByteArray) : Option (Int × Bool) := if s.size ≤ 70368744177664 then some (trz (chrs s)) else none
theorem termSize_f (s : ByteArray) (hs : s.size ≤ 70368744177664) : impl_TermSize.f s = some (trz (chrs s)) := by unfold impl_TermSize.f; rw [if_pos hs]

set_option maxHeartbeats 4000000 in
set_option maxRecDepth 100000 in
theorem termIn_calls (s : ByteArray) (hs : s.size ≤ 70368744177664) (w : World) : Calls Try.prog 37 #[.string s] w fun e w' => e = .returned (.bool (trm (chrs s)).isSome) ∧ Below w.heap.size w w' := by
  have HT := fun w => Aside0.mk (termOf_calls s hs w)
  cases ht : trm (chrs s) with
  | none =>
    rw [ht] at HT
    clear ht
    go_enter Try.func37, Try.ntmps37
    go_wp2_with (go_at_call 29; refine (HT _).out.mono ?_; rintro e w1 ⟨rfl, hb1⟩; have HB := Aside0.mk hb1; clear hb1)
    go_ret
    exact ⟨rfl, HB.out⟩
  | some t =>
    rw [ht] at HT
    clear ht
    go_enter Try.func37, Try.ntmps37
    go_wp2_with (go_at_call 29; refine (HT _).out.mono ?_; rintro e w1 ⟨⟨b, rfl, hIT⟩, hb1⟩; have HB := Aside0.mk hb1; clear hb1 hIT)
    go_ret
    exact ⟨rfl, HB.out⟩
set_option maxHeartbeats 4000000 in
set_option maxRecDepth 100000 in
theorem count_calls (s : ByteArray) (c : UInt8) (w : World) : Calls Try.prog 38 #[.string s, .string ⟨#[c]⟩] w fun e w' => e = .returned (.int .i64 ((chrs s).count c : Nat)) ∧ w' = w := by
  go_enter Try.func38, Try.ntmps38
  go_wp2
  rw [run_callFunc_extern Try.func51 (by kernel_rfl) (by kernel_rfl) (by kernel_rfl) (e := Extern.BytealgCount.count) (by kernel_rfl), Lib.run_countString]
  simp only [Result.andThen]
  rw [Oper.upon_value]
  go_wp2
  go_ret
  refine ⟨?_, rfl⟩
  simp only [Lib.countByte, chrs]
  rfl
set_option maxHeartbeats 4000000 in
set_option maxRecDepth 100000 in
theorem impl_TermSize.calls (s : ByteArray) (r1 : Int) (r2 : Bool) (w : World) (h : impl_TermSize.f s = some (r1, r2)) :
    Calls Try.prog 24 #[.string s] w fun e w' => e = .returned (.tuple #[.int .i64 r1, .bool r2]) ∧ Below w.heap.size w w' := by
  unfold impl_TermSize.f at h
  split at h
  rotate_left
  · cases h
  rename_i hs
  simp only [Option.some.injEq] at h
  have HI := fun w => Aside0.mk (termIn_calls s hs w)
  unfold trz at h
  cases ht : trm (chrs s) with
  | none =>
    rw [ht] at HI h
    simp only [Prod.mk.injEq] at h
    obtain ⟨rfl, rfl⟩ := h
    clear ht
    go_enter Try.func24, Try.ntmps24
    go_wp2_with (go_at_call 37; refine (HI _).out.mono ?_; rintro e w1 ⟨rfl, hb1⟩; have HB := Aside0.mk hb1; clear hb1)
    go_ret2
    exact ⟨rfl, HB.out⟩
  | some t =>
    obtain ⟨hl, hok, he, _⟩ := trm_some ht
    obtain ⟨k1, k2, k3⟩ := count_txt t hok
    have C1 := fun w => Aside0.mk (count_calls s 40 w)
    have C2 := fun w => Aside0.mk (count_calls s 41 w)
    have hsz : s.size = nsz t + 2 * tws t := by rw [← k3, ← he, chrs_length]
    rw [he, k1] at C1
    rw [he, k2] at C2
    rw [ht] at HI h
    simp only [Prod.mk.injEq] at h
    obtain ⟨rfl, rfl⟩ := h
    clear ht hok k1 k2 k3 he
    rw [chrs_length] at hl
    generalize nsz t = n at *
    generalize tws t = m at *
    have w1 : IntKind.i64.wrap ((s.size : Int) - (m : Int)) = ((n + m : Nat) : Int) := by rw [i64_w, w64 (by omega) (by omega)]; omega
    have w2 : IntKind.i64.wrap (((n + m : Nat) : Int) - (m : Int)) = (n : Int) := by rw [i64_w, w64 (by omega) (by omega)]; omega
    have w3 : IntKind.i64.wrap ((n : Int) + (m : Int) - (m : Int)) = (n : Int) := by rw [i64_w, w64 (by omega) (by omega)]; omega
    have HW := Aside0.mk (show IntKind.i64.wrap (IntKind.i64.wrap ((s.size : Int) - (m : Int)) - (m : Int)) = (n : Int) by rw [w1, w2])
    go_enter Try.func24, Try.ntmps24
    go_wp2_with (first
      | (go_at_call 37; refine (HI _).out.mono ?_; rintro e w1 ⟨rfl, hb1⟩; have HB := Aside0.mk hb1; clear hb1)
      | (go_at_call 38; with_reducible refine (C1 _).out.mono ?_; rintro e w2 ⟨rfl, rfl⟩)
      | (go_at_call 38; with_reducible refine (C2 _).out.mono ?_; rintro e w2 ⟨rfl, rfl⟩))
    go_ret2
    exact ⟨by first | rfl | (rw [HW.out]) | (simp; done) | (congr 3; simp; omega) | (simp; omega), HB.out⟩
end Go.Proofs.Ytjjnckgdpdelkaa.P

-- (*term).lone and (*term).text.
namespace Go.Proofs.Ytjjnckgdpdelkaa.P
open Go.RowKit Go.Proofs.YtjjnckgdpdelkaaW.PrintWords Go.Proofs.YtjjnckgdpdelkaaW.PrintLast Go.Proofs.YtjjnckgdpdelkaaW.PrintMore
set_option linter.unusedVariables false
set_option linter.unusedSimpArgs false

def Tm.sg : Tm → UInt8
  | .leaf c => c
  | .one c _ => c
  | .two c _ _ => c
def Tm.kd : Tm → Nat
  | .leaf _ => 0
  | .one _ _ => 1
  | .two _ _ _ => 2
theorem it_head {w : World} {t : Tm} {p : Option Addr} (h : IT w t p) : ∃ b A n, p = some ⟨b, 0, none⟩ ∧ b < w.heap.size ∧ w.cell? ⟨b, 0, none⟩ = some (.int .u8 (t.sg.toNat : Int)) ∧ w.cell? ⟨b, 1, none⟩ = some (.slice A t.kd n) := by
  cases t with
  | leaf c => obtain ⟨b, A, n, e, h1⟩ := h; exact ⟨b, A, n, e, blk_lt h1, (blk_cell h1 0).trans rfl, (blk_cell h1 1).trans rfl⟩
  | one c t => obtain ⟨b, g, n, q, e, h1, _⟩ := h; exact ⟨b, some ⟨g, 0, none⟩, n, e, blk_lt h1, (blk_cell h1 0).trans rfl, (blk_cell h1 1).trans rfl⟩
  | two c t u => obtain ⟨b, g, n, q, r, e, h1, _⟩ := h; exact ⟨b, some ⟨g, 0, none⟩, n, e, blk_lt h1, (blk_cell h1 0).trans rfl, (blk_cell h1 1).trans rfl⟩
/-- Whether a term is this one sign. -/
def lone (t : Tm) (x : Int) : Bool := decide (t.kd = 0) && ((t.sg.toNat : Int) == x)

set_option maxHeartbeats 4000000 in
set_option maxRecDepth 100000 in
theorem lone_calls (t : Tm) (x : Int) (p : Option Addr) (w : World) (h : IT w t p) : Calls Try.prog 54 #[.pointer p, .int .u8 x] w fun e w' => e = .returned (.bool (lone t x)) ∧ w' = w := by
  obtain ⟨b, A, n, rfl, hlt, h0, h1⟩ := it_head h
  unfold lone
  clear h
  generalize t.kd = k at *
  generalize (t.sg.toNat : Int) = c at *
  cases k with
  | zero =>
    go_enter Try.func54, Try.ntmps54
    go_wp2_with fail
    go_ret
    exact ⟨rfl, rfl⟩
  | succ k =>
    have hk : (((k + 1 : Nat) : Int) == 0) = false := by rw [beq_eq_false_iff_ne]; omega
    have hd : decide (k + 1 = 0) = false := rfl
    rw [hd, Bool.false_and]
    go_enter Try.func54, Try.ntmps54
    go_wp2_with fail
    go_ret
    exact ⟨rfl, rfl⟩

theorem conv1 {W : World} {g : Nat} {c : UInt8} (h : W.cell? ⟨g, 0, none⟩ = some (.int .u8 (c.toNat : Int))) : (convert 22 9 (.slice (some ⟨g, 0, none⟩) 1 1)).run Try.prog W = .ok (.string ⟨#[c]⟩) W := by
  have := run_convert_bytes_arg (P := Try.prog) W 22 5 Try.underlying22 Try.underlying5 g 0 1 1 [(c.toNat : Int)] rfl (fun i hi => by
    obtain rfl : i = 0 := by omega
    exact h) 9 Try.underlying9
  rw [this]
  congr 2
  simp [strOfNums]
theorem carry1 {W W' : World} {v : Value} {ty : TypeId} (h : Below (W.alloc (.cells #[v] ty)).heap.size (W.alloc (.cells #[v] ty)) W') : W'.cell? ⟨W.heap.size, 0, none⟩ = some v :=
  (h.cell (p := ⟨W.heap.size, 0, none⟩) (by rw [World.size_alloc]; show W.heap.size < _; omega)).trans ((blk_cell (blk_new W (.cells #[v] ty)) 0).trans rfl)
theorem carry1d {W W' : World} {v : Value} {ty : TypeId} (h : Below (W.alloc (.cells #[v] ty)).drew.heap.size (W.alloc (.cells #[v] ty)).drew W') : W'.cell? ⟨W.heap.size, 0, none⟩ = some v :=
  (h.cell (p := ⟨W.heap.size, 0, none⟩) (by show W.heap.size < (W.alloc (.cells #[v] ty)).heap.size; rw [World.size_alloc]; omega)).trans ((blk_cell (blk_drew (blk_new W (.cells #[v] ty))) 0).trans rfl)
/-- What (*term).text does at a term. -/
def TextOf (t : Tm) : Prop := ∀ (p : Option Addr) (w : World), IT w t p → Calls Try.prog 35 #[.pointer p] w fun e w' => e = .returned (.string ⟨t.txt.toArray⟩) ∧ Below w.heap.size w w'

set_option maxHeartbeats 4000000 in
set_option maxRecDepth 100000 in
theorem text_leaf (c : UInt8) : TextOf (.leaf c) := by
  rintro p w ⟨b, A, n, rfl, hb⟩
  have hc0 : w.cell? ⟨b, 0, none⟩ = some (.int .u8 (c.toNat : Int)) := (blk_cell hb 0).trans rfl
  have hc1 : w.cell? ⟨b, 1, none⟩ = some (.slice A 0 n) := (blk_cell hb 1).trans rfl
  have hlt : b < w.heap.size := blk_lt hb
  have hcv := conv1 (W := w.alloc (.cells #[.int .u8 (c.toNat : Int)] 5)) (g := w.heap.size) (c := c) ((blk_cell (blk_new w _) 0).trans rfl)
  clear hb
  go_enter Try.func35, Try.ntmps35
  go_wp2_with fail
  go_ret
  exact ⟨rfl, below_alloc (Below.refl _ _) _⟩

set_option maxHeartbeats 8000000 in
set_option maxRecDepth 100000 in
theorem text_one (c : UInt8) (t : Tm) (hl : t.txt.length ≤ 1000000) (ih : TextOf t) : TextOf (.one c t) := by
  rintro p w ⟨b, g, n, q, rfl, hb, hn, hq, ht⟩
  have hc0 : w.cell? ⟨b, 0, none⟩ = some (.int .u8 (c.toNat : Int)) := (blk_cell hb 0).trans rfl
  have hc1 : w.cell? ⟨b, 1, none⟩ = some (.slice (some ⟨g, 0, none⟩) 1 n) := (blk_cell hb 1).trans rfl
  have hlt : b < w.heap.size := blk_lt hb
  have hltg : g < w.heap.size := World.block_lt_of_cell? w _ hq
  have IH := fun w' (h : Below w.heap.size w w') => Aside0.mk (ih q w' (ht.below h))
  have hT : (⟨t.txt.toArray⟩ : ByteArray).size ≤ 1000000 := hl
  have HE := Aside0.mk (show (⟨(Tm.one c t).txt.toArray⟩ : ByteArray) = (⟨#[c]⟩ : ByteArray) ++ (⟨t.txt.toArray⟩ : ByteArray) by
    apply ByteArray.ext
    rw [ByteArray.data_append]
    simp [Tm.txt])
  rw [HE.out]
  generalize (⟨t.txt.toArray⟩ : ByteArray) = T at *
  have hz1 : 1 + T.size ≤ 9223372036854775807 := by omega
  have HK : ∀ w', Below w.heap.size w w' → (w'.cell? ⟨b, 0, none⟩ = some (.int .u8 (c.toNat : Int)) ∧ w'.cell? ⟨b, 1, none⟩ = some (.slice (some ⟨g, 0, none⟩) 1 n) ∧ w'.cell? ⟨g, 0, none⟩ = some (.pointer q) ∧ Below w.heap.size w w') := fun w' hw =>
    ⟨(hw.cell (p := ⟨b, 0, none⟩) hlt).trans hc0, (hw.cell (p := ⟨b, 1, none⟩) hlt).trans hc1, (hw.cell (p := ⟨g, 0, none⟩) hltg).trans hq, hw⟩
  have HKA := Aside0.mk HK
  have hcv : ∀ W : World, (convert 22 9 (.slice (some ⟨W.heap.size, 0, none⟩) 1 1)).run Try.prog (W.alloc (.cells #[.int .u8 (c.toNat : Int)] 5)) = .ok (.string ⟨#[c]⟩) (W.alloc (.cells #[.int .u8 (c.toNat : Int)] 5)) := fun W => conv1 ((blk_cell (blk_new W _) 0).trans rfl)
  have hcw : ∀ W : World, (convert 22 9 (.slice (some ⟨W.heap.size, 0, none⟩) 1 1)).run Try.prog (W.alloc (.cells #[.int .u8 (c.toNat : Int)] 5)).drew = .ok (.string ⟨#[c]⟩) (W.alloc (.cells #[.int .u8 (c.toNat : Int)] 5)).drew := fun W => conv1 ((blk_cell (blk_drew (blk_new W _)) 0).trans rfl)
  clear hb HK ht ih HE hT hl
  go_enter Try.func35, Try.ntmps35
  go_wp2_with fail
  go_region_held_law (fun w' => w'.cell? ⟨b, 0, none⟩ = some (.int .u8 (c.toNat : Int)) ∧ w'.cell? ⟨b, 1, none⟩ = some (.slice (some ⟨g, 0, none⟩) 1 n) ∧ w'.cell? ⟨g, 0, none⟩ = some (.pointer q) ∧ Below w.heap.size w w')
    ((refine HKA.out _ ?_; go_split_ands; (first | exact Below.refl _ _ | assumption | exact below_step (by assumption) hda | exact below_alloc (by assumption) _ | (apply below_drew1; first | assumption | exact Below.refl _ _))))
    ((first
      | (go_at_call 35; go_split_ands; with_reducible refine (IH _ (by assumption)).out.mono ?_; rintro e wa ⟨rfl, hda⟩; (try have hz2 := carry1 hda); (try have hz2 := carry1d hda); (try have hcv2 := conv1 hz2))))
  all_goals
    rename_i hHeld
    obtain ⟨_, _, _, hBW⟩ := hHeld
    go_wp2
    go_ret
    exact ⟨rfl, hBW⟩
end Go.Proofs.Ytjjnckgdpdelkaa.P

-- (*term).text at two terms.
namespace Go.Proofs.Ytjjnckgdpdelkaa.P
open Go.RowKit Go.Proofs.YtjjnckgdpdelkaaW.PrintWords Go.Proofs.YtjjnckgdpdelkaaW.PrintLast Go.Proofs.YtjjnckgdpdelkaaW.PrintMore
set_option linter.unusedVariables false
set_option linter.unusedSimpArgs false

set_option maxHeartbeats 16000000 in
set_option maxRecDepth 100000 in
theorem text_two (c : UInt8) (t u : Tm) (hl : t.txt.length ≤ 1000000) (hl2 : u.txt.length ≤ 1000000) (ih : TextOf t) (ih2 : TextOf u) : TextOf (.two c t u) := by
  rintro p w ⟨b, g, n, q, r, rfl, hb, hn, hq, hr, ht, hu⟩
  have hc0 : w.cell? ⟨b, 0, none⟩ = some (.int .u8 (c.toNat : Int)) := (blk_cell hb 0).trans rfl
  have hc1 : w.cell? ⟨b, 1, none⟩ = some (.slice (some ⟨g, 0, none⟩) 2 n) := (blk_cell hb 1).trans rfl
  have hlt : b < w.heap.size := blk_lt hb
  have hltg : g < w.heap.size := World.block_lt_of_cell? w _ hq
  have IH1 := fun w' (h : Below w.heap.size w w') => Aside0.mk (ih q w' (ht.below h))
  have IH2 := fun w' (h : Below w.heap.size w w') => Aside0.mk (ih2 r w' (hu.below h))
  have hT : (⟨t.txt.toArray⟩ : ByteArray).size ≤ 1000000 := hl
  have hU : (⟨u.txt.toArray⟩ : ByteArray).size ≤ 1000000 := hl2
  have HE := Aside0.mk (show (⟨(Tm.two c t u).txt.toArray⟩ : ByteArray) = ((((⟨#[40]⟩ : ByteArray) ++ (⟨t.txt.toArray⟩ : ByteArray)) ++ (⟨#[c]⟩ : ByteArray)) ++ (⟨u.txt.toArray⟩ : ByteArray)) ++ (⟨#[41]⟩ : ByteArray) by
    apply ByteArray.ext
    rw [ByteArray.data_append, ByteArray.data_append, ByteArray.data_append, ByteArray.data_append]
    simp [Tm.txt])
  rw [HE.out]
  generalize (⟨t.txt.toArray⟩ : ByteArray) = T at *
  generalize (⟨u.txt.toArray⟩ : ByteArray) = U at *
  have hz1 : 1 + T.size ≤ 9223372036854775807 := by omega
  have hz2 : 1 + T.size + 1 ≤ 9223372036854775807 := by omega
  have hz3 : 1 + T.size + 1 + U.size ≤ 9223372036854775807 := by omega
  have hz4 : 1 + T.size + 1 + U.size + 1 ≤ 9223372036854775807 := by omega
  have hz5 : 1 + T.size ≤ 9223372036854775806 := by omega
  have hz6 : 1 + T.size + 1 + U.size ≤ 9223372036854775806 := by omega
  have HK : ∀ w', Below w.heap.size w w' → (w'.cell? ⟨b, 0, none⟩ = some (.int .u8 (c.toNat : Int)) ∧ w'.cell? ⟨b, 1, none⟩ = some (.slice (some ⟨g, 0, none⟩) 2 n) ∧ w'.cell? ⟨g, 0, none⟩ = some (.pointer q) ∧ w'.cell? ⟨g, 1, none⟩ = some (.pointer r) ∧ Below w.heap.size w w') := fun w' hw =>
    ⟨(hw.cell (p := ⟨b, 0, none⟩) hlt).trans hc0, (hw.cell (p := ⟨b, 1, none⟩) hlt).trans hc1, (hw.cell (p := ⟨g, 0, none⟩) hltg).trans hq, (hw.cell (p := ⟨g, 1, none⟩) hltg).trans hr, hw⟩
  have HKA := Aside0.mk HK
  have hcv : ∀ W : World, (convert 22 9 (.slice (some ⟨W.heap.size, 0, none⟩) 1 1)).run Try.prog (W.alloc (.cells #[.int .u8 (c.toNat : Int)] 5)) = .ok (.string ⟨#[c]⟩) (W.alloc (.cells #[.int .u8 (c.toNat : Int)] 5)) := fun W => conv1 ((blk_cell (blk_new W _) 0).trans rfl)
  have hcw : ∀ W : World, (convert 22 9 (.slice (some ⟨W.heap.size, 0, none⟩) 1 1)).run Try.prog (W.alloc (.cells #[.int .u8 (c.toNat : Int)] 5)).drew = .ok (.string ⟨#[c]⟩) (W.alloc (.cells #[.int .u8 (c.toNat : Int)] 5)).drew := fun W => conv1 ((blk_cell (blk_drew (blk_new W _)) 0).trans rfl)
  clear hb HK ht hu ih ih2 HE hT hU hl hl2 hn
  go_enter Try.func35, Try.ntmps35
  go_wp2_with fail
  go_region_held_law (fun w' => w'.cell? ⟨b, 0, none⟩ = some (.int .u8 (c.toNat : Int)) ∧ w'.cell? ⟨b, 1, none⟩ = some (.slice (some ⟨g, 0, none⟩) 2 n) ∧ w'.cell? ⟨g, 0, none⟩ = some (.pointer q) ∧ w'.cell? ⟨g, 1, none⟩ = some (.pointer r) ∧ Below w.heap.size w w')
    ((refine HKA.out _ ?_; go_split_ands; (first | exact Below.refl _ _ | assumption | exact below_step (by assumption) hda | exact below_step (by assumption) hdb | exact below_alloc (by assumption) _ | (apply below_drew1; first | assumption | exact Below.refl _ _))))
    ((first
      | (go_at_call 35; go_split_ands; with_reducible refine (IH1 _ (by assumption)).out.mono ?_; rintro e wa ⟨rfl, hda⟩; (try have hzA := carry1 hda); (try have hzA := carry1d hda); (try have hzA := (hda.cell (p := ⟨_, 0, none⟩) (World.block_lt_of_cell? _ _ hzB)).trans hzB); (try have hcvA := conv1 hzA))
      | (go_at_call 35; go_split_ands; with_reducible refine (IH2 _ (by assumption)).out.mono ?_; rintro e wb ⟨rfl, hdb⟩; (try have hzB := carry1 hdb); (try have hzB := carry1d hdb); (try have hzB := (hdb.cell (p := ⟨_, 0, none⟩) (World.block_lt_of_cell? _ _ hzA)).trans hzA); (try have hcvB := conv1 hzB))))
  all_goals
    rename_i hHeld
    obtain ⟨_, _, _, _, hBW⟩ := hHeld
    go_wp2
    go_ret
    exact ⟨rfl, hBW⟩
theorem text_all : ∀ t : Tm, t.txt.length ≤ 1000000 → TextOf t
  | .leaf c, h => text_leaf c
  | .one c t, h => by
    have h1 : t.txt.length ≤ 1000000 := by simp only [Tm.txt, List.length_cons] at h; omega
    exact text_one c t h1 (text_all t h1)
  | .two c t u, h => by
    have h1 : t.txt.length ≤ 1000000 := by simp only [Tm.txt, List.length_cons, List.length_append] at h; omega
    have h2 : u.txt.length ≤ 1000000 := by simp only [Tm.txt, List.length_cons, List.length_append] at h; omega
    exact text_two c t u h1 h2 (text_all t h1) (text_all u h2)
end Go.Proofs.Ytjjnckgdpdelkaa.P

-- (*term).tidyOne.
namespace Go.Proofs.Ytjjnckgdpdelkaa.P
open Go.RowKit Go.Proofs.YtjjnckgdpdelkaaW.PrintWords Go.Proofs.YtjjnckgdpdelkaaW.PrintLast Go.Proofs.YtjjnckgdpdelkaaW.PrintMore
set_option linter.unusedVariables false
set_option linter.unusedSimpArgs false

/-- A sign ahead of a tidy term, tidily. -/
def one1 (c : UInt8) (x : Tm) : Tm :=
  if ((((c.toNat : Int) == 42) && (lone x 48 || lone x 49)) = true) then .leaf 49
  else if (((((c.toNat : Int) == 42) && ((x.sg.toNat : Int) == 42)) || (lone x 48 || lone x 49)) = true) then x
  else .one c x
/-- The pointer that is handed back leads to the term. -/
def DoneAt (t : Tm) (w : World) (e : Ending) (w' : World) : Prop := ∃ p, e = .returned (.pointer p) ∧ IT w' t p ∧ Below w.heap.size w w'
theorem done_x {t : Tm} {p : Option Addr} {w : World} (h : IT w t p) {v : Value} (hv : v = .pointer p) : DoneAt t w (.returned v) w := ⟨p, by rw [hv], h, Below.refl _ _⟩
theorem done_leaf (c : UInt8) {w : World} {v : Value} (hv : v = .pointer (some ⟨w.heap.size, 0, none⟩)) : DoneAt (.leaf c) w (.returned v) (w.alloc (.cells #[.int .u8 (c.toNat : Int), .slice none 0 0] 73)) :=
  ⟨_, by rw [hv], ⟨w.heap.size, none, 0, rfl, blk_new w _⟩, below_alloc (Below.refl _ _) _⟩
theorem done_one (c : UInt8) {x : Tm} {q : Option Addr} {w : World} (h : IT w x q) {v : Value} (hv : v = .pointer (some ⟨w.heap.size + 1, 0, none⟩)) : DoneAt (.one c x) w (.returned v) ((w.alloc (.cells #[.pointer q] 49)).alloc (.cells #[.int .u8 (c.toNat : Int), .slice (some ⟨w.heap.size, 0, none⟩) 1 1] 73)) :=
  ⟨_, by rw [hv], ⟨w.heap.size + 1, w.heap.size, 1, q, rfl, by
      have := blk_new (w.alloc (.cells #[.pointer q] 49)) (.cells #[.int .u8 (c.toNat : Int), .slice (some ⟨w.heap.size, 0, none⟩) 1 1] 73)
      rwa [World.size_alloc] at this, Nat.le_refl _, (blk_cell (blk_alloc (blk_new w _) _) 0).trans rfl, h.below (below_alloc (below_alloc (Below.refl _ _) _) _)⟩, below_alloc (below_alloc (Below.refl _ _) _) _⟩

set_option maxHeartbeats 8000000 in
set_option maxRecDepth 100000 in
theorem tidyOne_calls (c : UInt8) (t0 x : Tm) (pt px : Option Addr) (w : World) (ht : IT w (.one c t0) pt) (hx : IT w x px) : Calls Try.prog 47 #[.pointer pt, .pointer px] w (DoneAt (one1 c x) w) := by
  obtain ⟨b, A, n, rfl, hlt, h0, h1⟩ := it_head ht
  replace h0 : w.cell? ⟨b, 0, none⟩ = some (.int .u8 (c.toNat : Int)) := h0
  obtain ⟨bx, Ax, nx, rfl, hltx, hx0, hx1⟩ := it_head hx
  have L48 := lone_calls x 48 _ w hx
  have L49 := lone_calls x 49 _ w hx
  have HX := Aside0.mk (fun {v : Value} => @done_x x _ w hx v)
  have H49 := Aside0.mk (fun {v : Value} => @done_leaf 49 w v)
  have HO := Aside0.mk (fun {v : Value} => @done_one c x _ w hx v)
  unfold one1
  clear ht h1 hx hx1
  generalize lone x 48 = a at *
  generalize lone x 49 = d at *
  generalize ((x.sg.toNat : Int)) = s at *
  generalize (Tm.one c x) = O at *
  generalize ((c.toNat : Int)) = m at *
  obtain ⟨e1, he1⟩ : ∃ e, (m == 42) = e := ⟨_, rfl⟩
  obtain ⟨e2, he2⟩ : ∃ e, (s == 42) = e := ⟨_, rfl⟩
  rw [he1, he2]
  have L1 := Aside0.mk L48
  have L2 := Aside0.mk L49
  clear L48 L49
  cases e1 <;> cases e2 <;> cases a <;> cases d
  all_goals
    go_enter Try.func47, Try.ntmps47
    go_wp2_with (first
      | (go_at_call 54; with_reducible refine (L1.out).mono ?_; rintro e wa ⟨rfl, rfl⟩)
      | (go_at_call 54; with_reducible refine (L2.out).mono ?_; rintro e wa ⟨rfl, rfl⟩))
    go_ret
    first
      | exact HX.out rfl
      | exact H49.out rfl
      | exact HO.out rfl
end Go.Proofs.Ytjjnckgdpdelkaa.P

-- (*term).tidyTwo.
namespace Go.Proofs.Ytjjnckgdpdelkaa.P
open Go.RowKit Go.Proofs.YtjjnckgdpdelkaaW.PrintWords Go.Proofs.YtjjnckgdpdelkaaW.PrintLast Go.Proofs.YtjjnckgdpdelkaaW.PrintMore
set_option linter.unusedVariables false
set_option linter.unusedSimpArgs false

/-- Two tidy terms with a sign between them, tidily. -/
def two1 (c : UInt8) (x y : Tm) : Tm :=
  if (((lone x 48 && ((c.toNat : Int) == 43)) || (lone x 49 && ((c.toNat : Int) == 46))) = true) then y
  else if (((lone y 48 && ((c.toNat : Int) == 43)) || (lone y 49 && ((c.toNat : Int) == 46))) = true) then x
  else if ((lone x 48 || lone y 48) = true) then .leaf 48
  else if ((!((c.toNat : Int) == 46) && decide (x.txt = y.txt)) = true) then x
  else .two c x y
theorem DoneAt.step {t : Tm} {w w1 w' : World} {e : Ending} (h : DoneAt t w1 e w') (hb : Below w.heap.size w w1) : DoneAt t w e w' := by
  obtain ⟨p, h1, h2, h3⟩ := h
  exact ⟨p, h1, h2, below_step hb h3⟩
theorem done_two (c : UInt8) {x y : Tm} {q r : Option Addr} {w : World} (h : IT w x q) (h' : IT w y r) {v : Value} (hv : v = .pointer (some ⟨w.heap.size + 1, 0, none⟩)) : DoneAt (.two c x y) w (.returned v) ((w.alloc (.cells #[.pointer q, .pointer r] 49)).alloc (.cells #[.int .u8 (c.toNat : Int), .slice (some ⟨w.heap.size, 0, none⟩) 2 2] 73)) :=
  ⟨_, by rw [hv], ⟨w.heap.size + 1, w.heap.size, 2, q, r, rfl, by
      have := blk_new (w.alloc (.cells #[.pointer q, .pointer r] 49)) (.cells #[.int .u8 (c.toNat : Int), .slice (some ⟨w.heap.size, 0, none⟩) 2 2] 73)
      rwa [World.size_alloc] at this, Nat.le_refl _, (blk_cell (blk_alloc (blk_new w _) _) 0).trans rfl, (blk_cell (blk_alloc (blk_new w _) _) 1).trans rfl, h.below (below_alloc (below_alloc (Below.refl _ _) _) _), h'.below (below_alloc (below_alloc (Below.refl _ _) _) _)⟩, below_alloc (below_alloc (Below.refl _ _) _) _⟩

theorem lone_both {x : Tm} (h : lone x 48 = true) : lone x 49 = false := by
  unfold lone at *
  simp only [Bool.and_eq_true, beq_iff_eq] at h
  rw [h.2, Bool.and_eq_false_iff]
  exact .inr rfl
def TwoOf (c : UInt8) : Prop := ∀ (t0 u0 x y : Tm) (pt px py : Option Addr) (w : World), x.txt.length ≤ 1000000 → y.txt.length ≤ 1000000 → IT w (.two c t0 u0) pt → IT w x px → IT w y py → Calls Try.prog 48 #[.pointer pt, .pointer px, .pointer py] w (DoneAt (two1 c x y) w)
end Go.Proofs.Ytjjnckgdpdelkaa.P

-- (*term).tidyTwo at the sign 38.
namespace Go.Proofs.Ytjjnckgdpdelkaa.P
open Go.RowKit Go.Proofs.YtjjnckgdpdelkaaW.PrintWords Go.Proofs.YtjjnckgdpdelkaaW.PrintLast Go.Proofs.YtjjnckgdpdelkaaW.PrintMore
set_option linter.unusedVariables false
set_option linter.unusedSimpArgs false

set_option maxHeartbeats 32000000 in
set_option maxRecDepth 100000 in
theorem tidyTwo_a : TwoOf 38 := by
  intro t0 u0 x y pt px py w hlx hly ht hx hy
  obtain ⟨b, A, n, rfl, hlt, h0, h1⟩ := it_head ht
  replace h0 : w.cell? ⟨b, 0, none⟩ = some (.int .u8 38) := h0
  have hc : ∀ w', Below w.heap.size w w' → w'.cell? ⟨b, 0, none⟩ = some (.int .u8 38) := fun w' h => (h.cell (p := ⟨b, 0, none⟩) hlt).trans h0
  have X1 := fun w' (h : Below w.heap.size w w') => Aside0.mk (lone_calls x 48 _ w' (hx.below h))
  have X2 := fun w' (h : Below w.heap.size w w') => Aside0.mk (lone_calls x 49 _ w' (hx.below h))
  have Y1 := fun w' (h : Below w.heap.size w w') => Aside0.mk (lone_calls y 48 _ w' (hy.below h))
  have Y2 := fun w' (h : Below w.heap.size w w') => Aside0.mk (lone_calls y 49 _ w' (hy.below h))
  have TX := fun w' (h : Below w.heap.size w w') => Aside0.mk (text_all x hlx _ w' (hx.below h))
  have TY := fun w' (h : Below w.heap.size w w') => Aside0.mk (text_all y hly _ w' (hy.below h))
  have HX := Aside0.mk (fun (W : World) {v : Value} (h : Below w.heap.size w W) (hv : v = .pointer px) => (done_x (hx.below h) hv).step h)
  have HY := Aside0.mk (fun (W : World) {v : Value} (h : Below w.heap.size w W) (hv : v = .pointer py) => (done_x (hy.below h) hv).step h)
  have H48 := Aside0.mk (fun (W : World) {v : Value} (h : Below w.heap.size w W) hv => (@done_leaf 48 W v hv).step h)
  have HT := Aside0.mk (fun (W : World) {v : Value} (h : Below w.heap.size w W) hv => (@done_two 38 x y px py W (hx.below h) (hy.below h) v hv).step h)
  have HC := Aside0.mk hc
  have HXY := Aside0.mk (show x.txt = y.txt ↔ (⟨x.txt.toArray⟩ : ByteArray) = ⟨y.txt.toArray⟩ by
    constructor
    · intro h; rw [h]
    · intro h
      have := congrArg (fun z : ByteArray => z.data.toList) h
      simpa using this)
  obtain ⟨bx, Ax, nx, rfl, hltx, _, _⟩ := it_head hx
  obtain ⟨by', Ay, ny, rfl, hlty, _, _⟩ := it_head hy
  have NX := lone_both (x := x)
  have NY := lone_both (x := y)
  unfold two1
  clear ht h1 hx hy hlx hly hc h0
  generalize lone x 48 = a at *
  generalize lone x 49 = d at *
  generalize lone y 48 = a2 at *
  generalize lone y 49 = d2 at *
  generalize (⟨x.txt.toArray⟩ : ByteArray) = T at *
  generalize (⟨y.txt.toArray⟩ : ByteArray) = U at *
  generalize (Tm.two 38 x y) = O at *
  by_cases hTU : x.txt = y.txt
  · rw [decide_eq_true hTU]
    obtain rfl := HXY.out.1 hTU
    clear HXY hTU
    generalize x = x9 at *
    generalize y = y9 at *
    cases a <;> cases d <;> (try (exfalso; exact Bool.noConfusion (NX rfl))) <;> cases a2 <;> cases d2 <;> (try (exfalso; exact Bool.noConfusion (NY rfl))) <;> clear NX NY
    all_goals
      go_enter Try.func48, Try.ntmps48
      go_wp2_with fail
      have hcd := HC.out w.drew (below_drew1 (Below.refl _ _))
      go_region
      have HB := Aside0.mk (below_drew1 (Below.refl w.heap.size w))
      go_wp2_with (first
        | (go_at_call 54; with_reducible refine (X1 _ HB.out).out.mono ?_; rintro e wa ⟨rfl, rfl⟩)
        | (go_at_call 54; with_reducible refine (X2 _ HB.out).out.mono ?_; rintro e wa ⟨rfl, rfl⟩)
        | (go_at_call 54; with_reducible refine (Y1 _ HB.out).out.mono ?_; rintro e wa ⟨rfl, rfl⟩)
        | (go_at_call 54; with_reducible refine (Y2 _ HB.out).out.mono ?_; rintro e wa ⟨rfl, rfl⟩)
        | (go_at_call 35; with_reducible refine (TX _ HB.out).out.mono ?_; rintro e wa ⟨rfl, hb⟩; have HB2 := Aside0.mk (below_step HB.out hb); clear HB; have HB := HB2; clear HB2 hb; have hcd2 := HC.out _ HB.out)
        | (go_at_call 35; with_reducible refine (TY _ HB.out).out.mono ?_; rintro e wa ⟨rfl, hb⟩; have HB2 := Aside0.mk (below_step HB.out hb); clear HB; have HB := HB2; clear HB2 hb; have hcd3 := HC.out _ HB.out))
      go_ret
      first
        | exact HX.out _ HB.out rfl
        | exact HY.out _ HB.out rfl
        | exact H48.out _ HB.out rfl
        | exact HT.out _ HB.out rfl
  · rw [decide_eq_false hTU]
    have hTne : ¬ T = U := fun h => hTU (HXY.out.2 h)
    have hTl : ¬ T.toList = U.toList := fun h => hTne (ByteArray.ext (Array.ext' (by rw [← ByteArray.toList_eq, ← ByteArray.toList_eq]; exact h)))
    have hTb : (T.toList == U.toList) = false := beq_eq_false_iff_ne.2 hTl
    clear HXY hTU
    generalize x = x9 at *
    generalize y = y9 at *
    cases a <;> cases d <;> (try (exfalso; exact Bool.noConfusion (NX rfl))) <;> cases a2 <;> cases d2 <;> (try (exfalso; exact Bool.noConfusion (NY rfl))) <;> clear NX NY
    all_goals
      go_enter Try.func48, Try.ntmps48
      go_wp2_with fail
      have hcd := HC.out w.drew (below_drew1 (Below.refl _ _))
      go_region
      have HB := Aside0.mk (below_drew1 (Below.refl w.heap.size w))
      go_wp2_with (first
        | (go_at_call 54; with_reducible refine (X1 _ HB.out).out.mono ?_; rintro e wa ⟨rfl, rfl⟩)
        | (go_at_call 54; with_reducible refine (X2 _ HB.out).out.mono ?_; rintro e wa ⟨rfl, rfl⟩)
        | (go_at_call 54; with_reducible refine (Y1 _ HB.out).out.mono ?_; rintro e wa ⟨rfl, rfl⟩)
        | (go_at_call 54; with_reducible refine (Y2 _ HB.out).out.mono ?_; rintro e wa ⟨rfl, rfl⟩)
        | (go_at_call 35; with_reducible refine (TX _ HB.out).out.mono ?_; rintro e wa ⟨rfl, hb⟩; have HB2 := Aside0.mk (below_step HB.out hb); clear HB; have HB := HB2; clear HB2 hb; have hcd2 := HC.out _ HB.out)
        | (go_at_call 35; with_reducible refine (TY _ HB.out).out.mono ?_; rintro e wa ⟨rfl, hb⟩; have HB2 := Aside0.mk (below_step HB.out hb); clear HB; have HB := HB2; clear HB2 hb; have hcd3 := HC.out _ HB.out))
      go_ret
      first
        | exact HX.out _ HB.out rfl
        | exact HY.out _ HB.out rfl
        | exact H48.out _ HB.out rfl
        | exact HT.out _ HB.out rfl
end Go.Proofs.Ytjjnckgdpdelkaa.P

-- (*term).tidyTwo at the sign 46.
namespace Go.Proofs.Ytjjnckgdpdelkaa.P
open Go.RowKit Go.Proofs.YtjjnckgdpdelkaaW.PrintWords Go.Proofs.YtjjnckgdpdelkaaW.PrintLast Go.Proofs.YtjjnckgdpdelkaaW.PrintMore
set_option linter.unusedVariables false
set_option linter.unusedSimpArgs false

set_option maxHeartbeats 32000000 in
set_option maxRecDepth 100000 in
theorem tidyTwo_d : TwoOf 46 := by
  intro t0 u0 x y pt px py w hlx hly ht hx hy
  obtain ⟨b, A, n, rfl, hlt, h0, h1⟩ := it_head ht
  replace h0 : w.cell? ⟨b, 0, none⟩ = some (.int .u8 46) := h0
  have hc : ∀ w', Below w.heap.size w w' → w'.cell? ⟨b, 0, none⟩ = some (.int .u8 46) := fun w' h => (h.cell (p := ⟨b, 0, none⟩) hlt).trans h0
  have X1 := fun w' (h : Below w.heap.size w w') => Aside0.mk (lone_calls x 48 _ w' (hx.below h))
  have X2 := fun w' (h : Below w.heap.size w w') => Aside0.mk (lone_calls x 49 _ w' (hx.below h))
  have Y1 := fun w' (h : Below w.heap.size w w') => Aside0.mk (lone_calls y 48 _ w' (hy.below h))
  have Y2 := fun w' (h : Below w.heap.size w w') => Aside0.mk (lone_calls y 49 _ w' (hy.below h))
  have TX := fun w' (h : Below w.heap.size w w') => Aside0.mk (text_all x hlx _ w' (hx.below h))
  have TY := fun w' (h : Below w.heap.size w w') => Aside0.mk (text_all y hly _ w' (hy.below h))
  have HX := Aside0.mk (fun (W : World) {v : Value} (h : Below w.heap.size w W) (hv : v = .pointer px) => (done_x (hx.below h) hv).step h)
  have HY := Aside0.mk (fun (W : World) {v : Value} (h : Below w.heap.size w W) (hv : v = .pointer py) => (done_x (hy.below h) hv).step h)
  have H48 := Aside0.mk (fun (W : World) {v : Value} (h : Below w.heap.size w W) hv => (@done_leaf 48 W v hv).step h)
  have HT := Aside0.mk (fun (W : World) {v : Value} (h : Below w.heap.size w W) hv => (@done_two 46 x y px py W (hx.below h) (hy.below h) v hv).step h)
  have HC := Aside0.mk hc
  have HXY := Aside0.mk (show x.txt = y.txt ↔ (⟨x.txt.toArray⟩ : ByteArray) = ⟨y.txt.toArray⟩ by
    constructor
    · intro h; rw [h]
    · intro h
      have := congrArg (fun z : ByteArray => z.data.toList) h
      simpa using this)
  obtain ⟨bx, Ax, nx, rfl, hltx, _, _⟩ := it_head hx
  obtain ⟨by', Ay, ny, rfl, hlty, _, _⟩ := it_head hy
  have NX := lone_both (x := x)
  have NY := lone_both (x := y)
  unfold two1
  clear ht h1 hx hy hlx hly hc h0
  generalize lone x 48 = a at *
  generalize lone x 49 = d at *
  generalize lone y 48 = a2 at *
  generalize lone y 49 = d2 at *
  generalize (⟨x.txt.toArray⟩ : ByteArray) = T at *
  generalize (⟨y.txt.toArray⟩ : ByteArray) = U at *
  generalize (Tm.two 46 x y) = O at *
  by_cases hTU : x.txt = y.txt
  · rw [decide_eq_true hTU]
    obtain rfl := HXY.out.1 hTU
    clear HXY hTU
    generalize x = x9 at *
    generalize y = y9 at *
    cases a <;> cases d <;> (try (exfalso; exact Bool.noConfusion (NX rfl))) <;> cases a2 <;> cases d2 <;> (try (exfalso; exact Bool.noConfusion (NY rfl))) <;> clear NX NY
    all_goals
      go_enter Try.func48, Try.ntmps48
      go_wp2_with fail
      have hcd := HC.out w.drew (below_drew1 (Below.refl _ _))
      go_region
      have HB := Aside0.mk (below_drew1 (Below.refl w.heap.size w))
      go_wp2_with (first
        | (go_at_call 54; with_reducible refine (X1 _ HB.out).out.mono ?_; rintro e wa ⟨rfl, rfl⟩)
        | (go_at_call 54; with_reducible refine (X2 _ HB.out).out.mono ?_; rintro e wa ⟨rfl, rfl⟩)
        | (go_at_call 54; with_reducible refine (Y1 _ HB.out).out.mono ?_; rintro e wa ⟨rfl, rfl⟩)
        | (go_at_call 54; with_reducible refine (Y2 _ HB.out).out.mono ?_; rintro e wa ⟨rfl, rfl⟩)
        | (go_at_call 35; with_reducible refine (TX _ HB.out).out.mono ?_; rintro e wa ⟨rfl, hb⟩; have HB2 := Aside0.mk (below_step HB.out hb); clear HB; have HB := HB2; clear HB2 hb; have hcd2 := HC.out _ HB.out)
        | (go_at_call 35; with_reducible refine (TY _ HB.out).out.mono ?_; rintro e wa ⟨rfl, hb⟩; have HB2 := Aside0.mk (below_step HB.out hb); clear HB; have HB := HB2; clear HB2 hb; have hcd3 := HC.out _ HB.out))
      go_ret
      first
        | exact HX.out _ HB.out rfl
        | exact HY.out _ HB.out rfl
        | exact H48.out _ HB.out rfl
        | exact HT.out _ HB.out rfl
  · rw [decide_eq_false hTU]
    have hTne : ¬ T = U := fun h => hTU (HXY.out.2 h)
    have hTl : ¬ T.toList = U.toList := fun h => hTne (ByteArray.ext (Array.ext' (by rw [← ByteArray.toList_eq, ← ByteArray.toList_eq]; exact h)))
    have hTb : (T.toList == U.toList) = false := beq_eq_false_iff_ne.2 hTl
    clear HXY hTU
    generalize x = x9 at *
    generalize y = y9 at *
    cases a <;> cases d <;> (try (exfalso; exact Bool.noConfusion (NX rfl))) <;> cases a2 <;> cases d2 <;> (try (exfalso; exact Bool.noConfusion (NY rfl))) <;> clear NX NY
    all_goals
      go_enter Try.func48, Try.ntmps48
      go_wp2_with fail
      have hcd := HC.out w.drew (below_drew1 (Below.refl _ _))
      go_region
      have HB := Aside0.mk (below_drew1 (Below.refl w.heap.size w))
      go_wp2_with (first
        | (go_at_call 54; with_reducible refine (X1 _ HB.out).out.mono ?_; rintro e wa ⟨rfl, rfl⟩)
        | (go_at_call 54; with_reducible refine (X2 _ HB.out).out.mono ?_; rintro e wa ⟨rfl, rfl⟩)
        | (go_at_call 54; with_reducible refine (Y1 _ HB.out).out.mono ?_; rintro e wa ⟨rfl, rfl⟩)
        | (go_at_call 54; with_reducible refine (Y2 _ HB.out).out.mono ?_; rintro e wa ⟨rfl, rfl⟩)
        | (go_at_call 35; with_reducible refine (TX _ HB.out).out.mono ?_; rintro e wa ⟨rfl, hb⟩; have HB2 := Aside0.mk (below_step HB.out hb); clear HB; have HB := HB2; clear HB2 hb; have hcd2 := HC.out _ HB.out)
        | (go_at_call 35; with_reducible refine (TY _ HB.out).out.mono ?_; rintro e wa ⟨rfl, hb⟩; have HB2 := Aside0.mk (below_step HB.out hb); clear HB; have HB := HB2; clear HB2 hb; have hcd3 := HC.out _ HB.out))
      go_ret
      first
        | exact HX.out _ HB.out rfl
        | exact HY.out _ HB.out rfl
        | exact H48.out _ HB.out rfl
        | exact HT.out _ HB.out rfl
end Go.Proofs.Ytjjnckgdpdelkaa.P

-- (*term).tidyTwo at the sign 43.
namespace Go.Proofs.Ytjjnckgdpdelkaa.P
open Go.RowKit Go.Proofs.YtjjnckgdpdelkaaW.PrintWords Go.Proofs.YtjjnckgdpdelkaaW.PrintLast Go.Proofs.YtjjnckgdpdelkaaW.PrintMore
set_option linter.unusedVariables false
set_option linter.unusedSimpArgs false

set_option maxHeartbeats 32000000 in
set_option maxRecDepth 100000 in
theorem tidyTwo_p : TwoOf 43 := by
  intro t0 u0 x y pt px py w hlx hly ht hx hy
  obtain ⟨b, A, n, rfl, hlt, h0, h1⟩ := it_head ht
  replace h0 : w.cell? ⟨b, 0, none⟩ = some (.int .u8 43) := h0
  have hc : ∀ w', Below w.heap.size w w' → w'.cell? ⟨b, 0, none⟩ = some (.int .u8 43) := fun w' h => (h.cell (p := ⟨b, 0, none⟩) hlt).trans h0
  have X1 := fun w' (h : Below w.heap.size w w') => Aside0.mk (lone_calls x 48 _ w' (hx.below h))
  have X2 := fun w' (h : Below w.heap.size w w') => Aside0.mk (lone_calls x 49 _ w' (hx.below h))
  have Y1 := fun w' (h : Below w.heap.size w w') => Aside0.mk (lone_calls y 48 _ w' (hy.below h))
  have Y2 := fun w' (h : Below w.heap.size w w') => Aside0.mk (lone_calls y 49 _ w' (hy.below h))
  have TX := fun w' (h : Below w.heap.size w w') => Aside0.mk (text_all x hlx _ w' (hx.below h))
  have TY := fun w' (h : Below w.heap.size w w') => Aside0.mk (text_all y hly _ w' (hy.below h))
  have HX := Aside0.mk (fun (W : World) {v : Value} (h : Below w.heap.size w W) (hv : v = .pointer px) => (done_x (hx.below h) hv).step h)
  have HY := Aside0.mk (fun (W : World) {v : Value} (h : Below w.heap.size w W) (hv : v = .pointer py) => (done_x (hy.below h) hv).step h)
  have H48 := Aside0.mk (fun (W : World) {v : Value} (h : Below w.heap.size w W) hv => (@done_leaf 48 W v hv).step h)
  have HT := Aside0.mk (fun (W : World) {v : Value} (h : Below w.heap.size w W) hv => (@done_two 43 x y px py W (hx.below h) (hy.below h) v hv).step h)
  have HC := Aside0.mk hc
  have HXY := Aside0.mk (show x.txt = y.txt ↔ (⟨x.txt.toArray⟩ : ByteArray) = ⟨y.txt.toArray⟩ by
    constructor
    · intro h; rw [h]
    · intro h
      have := congrArg (fun z : ByteArray => z.data.toList) h
      simpa using this)
  obtain ⟨bx, Ax, nx, rfl, hltx, _, _⟩ := it_head hx
  obtain ⟨by', Ay, ny, rfl, hlty, _, _⟩ := it_head hy
  have NX := lone_both (x := x)
  have NY := lone_both (x := y)
  unfold two1
  clear ht h1 hx hy hlx hly hc h0
  generalize lone x 48 = a at *
  generalize lone x 49 = d at *
  generalize lone y 48 = a2 at *
  generalize lone y 49 = d2 at *
  generalize (⟨x.txt.toArray⟩ : ByteArray) = T at *
  generalize (⟨y.txt.toArray⟩ : ByteArray) = U at *
  generalize (Tm.two 43 x y) = O at *
  by_cases hTU : x.txt = y.txt
  · rw [decide_eq_true hTU]
    obtain rfl := HXY.out.1 hTU
    clear HXY hTU
    generalize x = x9 at *
    generalize y = y9 at *
    cases a <;> cases d <;> (try (exfalso; exact Bool.noConfusion (NX rfl))) <;> cases a2 <;> cases d2 <;> (try (exfalso; exact Bool.noConfusion (NY rfl))) <;> clear NX NY
    all_goals
      go_enter Try.func48, Try.ntmps48
      go_wp2_with fail
      have hcd := HC.out w.drew (below_drew1 (Below.refl _ _))
      go_region
      have HB := Aside0.mk (below_drew1 (Below.refl w.heap.size w))
      go_wp2_with (first
        | (go_at_call 54; with_reducible refine (X1 _ HB.out).out.mono ?_; rintro e wa ⟨rfl, rfl⟩)
        | (go_at_call 54; with_reducible refine (X2 _ HB.out).out.mono ?_; rintro e wa ⟨rfl, rfl⟩)
        | (go_at_call 54; with_reducible refine (Y1 _ HB.out).out.mono ?_; rintro e wa ⟨rfl, rfl⟩)
        | (go_at_call 54; with_reducible refine (Y2 _ HB.out).out.mono ?_; rintro e wa ⟨rfl, rfl⟩)
        | (go_at_call 35; with_reducible refine (TX _ HB.out).out.mono ?_; rintro e wa ⟨rfl, hb⟩; have HB2 := Aside0.mk (below_step HB.out hb); clear HB; have HB := HB2; clear HB2 hb; have hcd2 := HC.out _ HB.out)
        | (go_at_call 35; with_reducible refine (TY _ HB.out).out.mono ?_; rintro e wa ⟨rfl, hb⟩; have HB2 := Aside0.mk (below_step HB.out hb); clear HB; have HB := HB2; clear HB2 hb; have hcd3 := HC.out _ HB.out))
      go_ret
      first
        | exact HX.out _ HB.out rfl
        | exact HY.out _ HB.out rfl
        | exact H48.out _ HB.out rfl
        | exact HT.out _ HB.out rfl
  · rw [decide_eq_false hTU]
    have hTne : ¬ T = U := fun h => hTU (HXY.out.2 h)
    have hTl : ¬ T.toList = U.toList := fun h => hTne (ByteArray.ext (Array.ext' (by rw [← ByteArray.toList_eq, ← ByteArray.toList_eq]; exact h)))
    have hTb : (T.toList == U.toList) = false := beq_eq_false_iff_ne.2 hTl
    clear HXY hTU
    generalize x = x9 at *
    generalize y = y9 at *
    cases a <;> cases d <;> (try (exfalso; exact Bool.noConfusion (NX rfl))) <;> cases a2 <;> cases d2 <;> (try (exfalso; exact Bool.noConfusion (NY rfl))) <;> clear NX NY
    all_goals
      go_enter Try.func48, Try.ntmps48
      go_wp2_with fail
      have hcd := HC.out w.drew (below_drew1 (Below.refl _ _))
      go_region
      have HB := Aside0.mk (below_drew1 (Below.refl w.heap.size w))
      go_wp2_with (first
        | (go_at_call 54; with_reducible refine (X1 _ HB.out).out.mono ?_; rintro e wa ⟨rfl, rfl⟩)
        | (go_at_call 54; with_reducible refine (X2 _ HB.out).out.mono ?_; rintro e wa ⟨rfl, rfl⟩)
        | (go_at_call 54; with_reducible refine (Y1 _ HB.out).out.mono ?_; rintro e wa ⟨rfl, rfl⟩)
        | (go_at_call 54; with_reducible refine (Y2 _ HB.out).out.mono ?_; rintro e wa ⟨rfl, rfl⟩)
        | (go_at_call 35; with_reducible refine (TX _ HB.out).out.mono ?_; rintro e wa ⟨rfl, hb⟩; have HB2 := Aside0.mk (below_step HB.out hb); clear HB; have HB := HB2; clear HB2 hb; have hcd2 := HC.out _ HB.out)
        | (go_at_call 35; with_reducible refine (TY _ HB.out).out.mono ?_; rintro e wa ⟨rfl, hb⟩; have HB2 := Aside0.mk (below_step HB.out hb); clear HB; have HB := HB2; clear HB2 hb; have hcd3 := HC.out _ HB.out))
      go_ret
      first
        | exact HX.out _ HB.out rfl
        | exact HY.out _ HB.out rfl
        | exact H48.out _ HB.out rfl
        | exact HT.out _ HB.out rfl
end Go.Proofs.Ytjjnckgdpdelkaa.P

-- (*term).tidy.
namespace Go.Proofs.Ytjjnckgdpdelkaa.P
open Go.RowKit Go.Proofs.YtjjnckgdpdelkaaW.PrintWords Go.Proofs.YtjjnckgdpdelkaaW.PrintLast Go.Proofs.YtjjnckgdpdelkaaW.PrintMore
set_option linter.unusedVariables false
set_option linter.unusedSimpArgs false

/-- A term, tidily. -/
def tidyT : Tm → Tm
  | .leaf c => .leaf c
  | .one c t => one1 c (tidyT t)
  | .two c t u => two1 c (tidyT t) (tidyT u)
theorem leaf49_len : (Tm.leaf 49).txt.length = 1 := rfl
theorem one1_len (c : UInt8) (x : Tm) : (one1 c x).txt.length ≤ x.txt.length + 1 := by
  have := txt_pos x
  unfold one1
  split
  · rw [leaf49_len]; omega
  · split
    · omega
    · simp only [Tm.txt, List.length_cons]; omega
theorem two1_len (c : UInt8) (x y : Tm) : (two1 c x y).txt.length ≤ x.txt.length + y.txt.length + 3 := by
  have h1 := txt_pos x
  have h2 := txt_pos y
  unfold two1
  split
  · omega
  · split
    · omega
    · split
      · show 1 ≤ _; omega
      · split
        · omega
        · simp only [Tm.txt, List.length_cons, List.length_append, List.length_nil]; omega
theorem tidyT_len : ∀ t : Tm, (tidyT t).txt.length ≤ t.txt.length
  | .leaf c => Nat.le_refl _
  | .one c t => by
    have := one1_len c (tidyT t)
    have h := tidyT_len t
    simp only [tidyT, Tm.txt, List.length_cons]; omega
  | .two c t u => by
    have := two1_len c (tidyT t) (tidyT u)
    have h := tidyT_len t
    have h2 := tidyT_len u
    simp only [tidyT, Tm.txt, List.length_cons, List.length_append, List.length_nil]; omega
theorem tidyTwo_all (c : UInt8) (h : isT c = true) : TwoOf c := by
  rcases isT_cases h with rfl | rfl | rfl
  · exact tidyTwo_p
  · exact tidyTwo_d
  · exact tidyTwo_a
/-- What (*term).tidy does at a term. -/
def TidyOf (t : Tm) : Prop := ∀ (p : Option Addr) (w : World), IT w t p → Calls Try.prog 34 #[.pointer p] w (DoneAt (tidyT t) w)

set_option maxHeartbeats 4000000 in
set_option maxRecDepth 100000 in
theorem tidy_leaf (c : UInt8) : TidyOf (.leaf c) := by
  intro p w h
  have HD := Aside0.mk (fun {v : Value} => @done_x (.leaf c) p w h v)
  obtain ⟨b, A, n, rfl, hlt, h0, h1⟩ := it_head h
  replace h1 : w.cell? ⟨b, 1, none⟩ = some (.slice A 0 n) := h1
  show Calls _ _ _ _ (DoneAt (.leaf c) w)
  generalize (Tm.leaf c) = O at *
  clear h h0
  go_enter Try.func34, Try.ntmps34
  go_wp2_with fail
  go_ret
  exact HD.out rfl

set_option maxHeartbeats 4000000 in
set_option maxRecDepth 100000 in
theorem tidy_one (c : UInt8) (t : Tm) (ih : TidyOf t) : TidyOf (.one c t) := by
  rintro p w h
  have h9 := h
  obtain ⟨b, g, n, q, rfl, hb, hn, hq, ht⟩ := h9
  have hc1 : w.cell? ⟨b, 1, none⟩ = some (.slice (some ⟨g, 0, none⟩) 1 n) := (blk_cell hb 1).trans rfl
  have hlt : b < w.heap.size := blk_lt hb
  have hltg : g < w.heap.size := World.block_lt_of_cell? w _ hq
  have IH := Aside0.mk (ih q w ht)
  have H1 := fun w1 (hw : Below w.heap.size w w1) (p1 : Option Addr) (h1 : IT w1 (tidyT t) p1) => Aside0.mk (tidyOne_calls c t (tidyT t) (some ⟨b, 0, none⟩) p1 w1 (h.below hw) h1)
  show Calls _ _ _ _ (DoneAt (one1 c (tidyT t)) w)
  generalize one1 c (tidyT t) = O at *
  generalize tidyT t = x at *
  clear hb h ht ih
  go_enter Try.func34, Try.ntmps34
  go_wp2_with (first
    | (go_at_call 34; (with_reducible refine (IH.out).mono ?_); rintro e w1 ⟨p1, rfl, hI1, hb1⟩; have HI1 := Aside0.mk hI1; have HB1 := Aside0.mk hb1; clear hI1 hb1)
    | (go_at_call 47; refine ((H1 _ HB1.out _ HI1.out).out).mono ?_; rintro e w2 ⟨p2, rfl, hI2, hb2⟩; have HI2 := Aside0.mk hI2; have HB2 := Aside0.mk (below_step HB1.out hb2); clear hI2 hb2))
  go_ret
  exact ⟨_, rfl, HI2.out, HB2.out⟩

set_option maxHeartbeats 8000000 in
set_option maxRecDepth 100000 in
theorem tidy_two (c : UInt8) (hc : isT c = true) (t u : Tm) (hl : t.txt.length ≤ 1000000) (hl2 : u.txt.length ≤ 1000000) (ih : TidyOf t) (ih2 : TidyOf u) : TidyOf (.two c t u) := by
  rintro p w h
  have h9 := h
  obtain ⟨b, g, n, q, r, rfl, hb, hn, hq, hr, ht, hu⟩ := h9
  have hc1 : w.cell? ⟨b, 1, none⟩ = some (.slice (some ⟨g, 0, none⟩) 2 n) := (blk_cell hb 1).trans rfl
  have hlt : b < w.heap.size := blk_lt hb
  have hltg : g < w.heap.size := World.block_lt_of_cell? w _ hq
  have IH1 := fun w' (h : Below w.heap.size w w') => Aside0.mk (ih q w' (ht.below h))
  have IH2 := fun w' (h : Below w.heap.size w w') => Aside0.mk (ih2 r w' (hu.below h))
  have z1 := tidyT_len t
  have z2 := tidyT_len u
  have H1 := fun w1 (hw : Below w.heap.size w w1) (p1 p2 : Option Addr) (h1 : IT w1 (tidyT t) p1) (h2 : IT w1 (tidyT u) p2) => Aside0.mk (tidyTwo_all c hc t u (tidyT t) (tidyT u) (some ⟨b, 0, none⟩) p1 p2 w1 (by omega) (by omega) (h.below hw) h1 h2)
  have HK : ∀ w', Below w.heap.size w w' → (w'.cell? ⟨b, 1, none⟩ = some (.slice (some ⟨g, 0, none⟩) 2 n) ∧ w'.cell? ⟨g, 0, none⟩ = some (.pointer q) ∧ w'.cell? ⟨g, 1, none⟩ = some (.pointer r) ∧ Below w.heap.size w w') := fun w' hw =>
    ⟨(hw.cell (p := ⟨b, 1, none⟩) hlt).trans hc1, (hw.cell (p := ⟨g, 0, none⟩) hltg).trans hq, (hw.cell (p := ⟨g, 1, none⟩) hltg).trans hr, hw⟩
  have HKA := Aside0.mk HK
  show Calls _ _ _ _ (DoneAt (two1 c (tidyT t) (tidyT u)) w)
  generalize two1 c (tidyT t) (tidyT u) = O at *
  generalize tidyT t = x at *
  generalize tidyT u = y at *
  clear hb h ht hu ih ih2 HK z1 z2 hl hl2 hn hc
  go_enter Try.func34, Try.ntmps34
  go_wp2_with fail
  go_region_held3 (fun w' => w'.cell? ⟨b, 1, none⟩ = some (.slice (some ⟨g, 0, none⟩) 2 n) ∧ w'.cell? ⟨g, 0, none⟩ = some (.pointer q) ∧ w'.cell? ⟨g, 1, none⟩ = some (.pointer r) ∧ Below w.heap.size w w')
    ((refine HKA.out _ ?_; go_split_ands; (first | exact Below.refl _ _ | assumption | exact below_step (by assumption) hda | exact below_step (by assumption) hdb | exact below_step (by assumption) hdc | (apply below_drew1; first | assumption | exact Below.refl _ _))))
    ((first
      | (go_at_call 34; go_split_ands; (with_reducible refine (IH1 _ (by assumption)).out.mono ?_); rintro e wa ⟨pa, rfl, hIa, hda⟩; have NA := Aside0.mk hIa; (try (have NB2 := Aside0.mk (NB.out.below hda))); clear hIa)
      | (go_at_call 34; go_split_ands; (with_reducible refine (IH2 _ (by assumption)).out.mono ?_); rintro e wb ⟨pb, rfl, hIb, hdb⟩; have NB := Aside0.mk hIb; (try (have NA2 := Aside0.mk (NA.out.below hdb))); clear hIb)
      | (go_at_call 48; go_split_ands; (first | refine ((H1 _ (by assumption) _ _ NA2.out NB.out).out).mono ?_ | refine ((H1 _ (by assumption) _ _ NA.out NB2.out).out).mono ?_); rintro e wc ⟨pc, rfl, hIc, hdc⟩; have NC := Aside0.mk hIc; clear hIc)))
  all_goals
    rename_i hHeld
    obtain ⟨_, _, _, hBW⟩ := hHeld
    go_wp2
    go_ret
    exact ⟨_, rfl, NC.out, hBW⟩
theorem tidy_all : ∀ t : Tm, t.ok → t.txt.length ≤ 1000000 → TidyOf t
  | .leaf c, _, h => tidy_leaf c
  | .one c t, ho, h => by
    have h1 : t.txt.length ≤ 1000000 := by simp only [Tm.txt, List.length_cons] at h; omega
    exact tidy_one c t (tidy_all t ho.2 h1)
  | .two c t u, ho, h => by
    have h1 : t.txt.length ≤ 1000000 := by simp only [Tm.txt, List.length_cons, List.length_append] at h; omega
    have h2 : u.txt.length ≤ 1000000 := by simp only [Tm.txt, List.length_cons, List.length_append] at h; omega
    exact tidy_two c ho.1 t u h1 h2 (tidy_all t ho.2.1 h1) (tidy_all u ho.2.2 h2)
end Go.Proofs.Ytjjnckgdpdelkaa.P

-- impl.TermTidy.
namespace Go.Proofs.Ytjjnckgdpdelkaa.P
open Go.RowKit Go.Proofs.YtjjnckgdpdelkaaW.PrintWords Go.Proofs.YtjjnckgdpdelkaaW.PrintLast Go.Proofs.YtjjnckgdpdelkaaW.PrintMore
set_option linter.unusedVariables false
set_option linter.unusedSimpArgs false

/-- What is said of a text's term, tidily. -/
def trt (s : List UInt8) : ByteArray × Bool := match trm s with
  | none => (⟨#[]⟩, false)
  | some t => (⟨(tidyT t).txt.toArray⟩, true)
def impl_TermTidy.f (s : ByteArray) : Option (ByteArray × Bool) := if s.size ≤ 70368744177664 then some (trt (chrs s)) else none
theorem termTidy_f (s : ByteArray) (hs : s.size ≤ 70368744177664) : impl_TermTidy.f s = some (trt (chrs s)) := by unfold impl_TermTidy.f; rw [if_pos hs]

set_option maxHeartbeats 8000000 in
set_option maxRecDepth 100000 in
theorem impl_TermTidy.calls (s : ByteArray) (r1 : ByteArray) (r2 : Bool) (w : World) (h : impl_TermTidy.f s = some (r1, r2)) :
    Calls Try.prog 22 #[.string s] w fun e w' => e = .returned (.tuple #[.string r1, .bool r2]) ∧ Below w.heap.size w w' := by
  unfold impl_TermTidy.f at h
  split at h
  rotate_left
  · cases h
  rename_i hs
  simp only [Option.some.injEq] at h
  have HT := fun w => Aside0.mk (termOf_calls s hs w)
  unfold trt at h
  cases ht : trm (chrs s) with
  | none =>
    rw [ht] at HT h
    simp only [Prod.mk.injEq] at h
    obtain ⟨rfl, rfl⟩ := h
    clear ht
    go_enter Try.func22, Try.ntmps22
    go_wp2_with (go_at_call 29; refine (HT _).out.mono ?_; rintro e w1 ⟨rfl, hb1⟩; have HB := Aside0.mk hb1; clear hb1)
    go_ret2
    exact ⟨rfl, HB.out⟩
  | some t =>
    obtain ⟨hl, hok, he, _⟩ := trm_some ht
    have hl2 : t.txt.length ≤ 60 := by rw [← he]; exact hl
    have hl3 := tidyT_len t
    have HN := fun w p h => Aside0.mk (tidy_all t hok (by omega) p w h)
    have HX := fun w p h => Aside0.mk (text_all (tidyT t) (by omega) p w h)
    rw [ht] at HT h
    simp only [Prod.mk.injEq] at h
    obtain ⟨rfl, rfl⟩ := h
    clear ht hok hl he hl2 hl3
    generalize (⟨(tidyT t).txt.toArray⟩ : ByteArray) = T at *
    go_enter Try.func22, Try.ntmps22
    go_wp2_with (first
      | (go_at_call 29; refine (HT _).out.mono ?_; rintro e w1 ⟨⟨b, rfl, hIT⟩, hb1⟩; have HB := Aside0.mk hb1; have HIT := Aside0.mk hIT; clear hb1 hIT)
      | (go_at_call 34; refine (HN _ _ HIT.out).out.mono ?_; rintro e w2 ⟨p2, rfl, hI2, hb2⟩; have HB2 := Aside0.mk (below_step HB.out hb2); have HI2 := Aside0.mk hI2; clear hI2 hb2)
      | (go_at_call 35; refine (HX _ _ HI2.out).out.mono ?_; rintro e w3 ⟨rfl, hb3⟩; have HB3 := Aside0.mk (below_step HB2.out hb3); clear hb3))
    go_ret2
    exact ⟨rfl, HB3.out⟩
end Go.Proofs.Ytjjnckgdpdelkaa.P

namespace Go.Proofs.Ytjjnckgdpdelkaa.P
open Go.RowKit Go.Proofs.YtjjnckgdpdelkaaW.PrintWords Go.Proofs.YtjjnckgdpdelkaaW.PrintLast Go.Proofs.YtjjnckgdpdelkaaW.PrintMore
attribute [local go_sem] max2_int min2_int max_two min_two max_three min_three max_four min_four   -- for this text's walks alone
set_option linter.unusedVariables false
set_option linter.unusedSimpArgs false

/-! ### spec_l7Of: function 27 -/
def spec_l7Of.f (a0:ByteArray):Option (Int × (List (S44)) × Bool):=(some (([]:List (S44)):List (S44))).bind fun y158=>(if (a0.size:Int) > 60 then (some (48,y158,false)) else ((spec_l7Read.f a0 0).bind fun bt162=>(if bt162.2.2=0 then (some (48,y158,false)) else (if bt162.2.2=(a0.size:Int) then (some (bt162.1,bt162.2.1,true)) else (some (48,y158,false))))))
set_option maxHeartbeats 8000000 in
set_option maxRecDepth 100000 in
theorem spec_l7Of.calls (a0:ByteArray) (r1:Int) (r2:List (S44)) (r3:Bool) (w:World) (h:spec_l7Of.f a0=some (r1,r2,r3)) :
  Calls Try.prog 27 #[.string a0] w fun e w'=>∃ v1_:Value,e=.returned (.tuple #[.agg #[.int .u8 r1,v1_],.bool r3])∧Kd.R k44 44 w' w.heap.size (fun _=>True) v1_ r2∧Below w.heap.size w w':=by
 have hu44:=Try.underlying44
 have HB:=Aside0.mk (Below.refl w.heap.size w)
 have H:((some (([]:List (S44)):List (S44))).bind fun y158=>(if (a0.size:Int) > 60 then (some (48,y158,false)) else ((spec_l7Read.f a0 0).bind fun bt162=>(if bt162.2.2=0 then (some (48,y158,false)) else (if bt162.2.2=(a0.size:Int) then (some (bt162.1,bt162.2.1,true)) else (some (48,y158,false)))))))=some (r1,r2,r3):=h
 clear h
 obtain ⟨y158,hy158⟩:∃ y_:List (S44),y_=(([]:List (S44))):=⟨_,rfl⟩
 replace H:(if (a0.size:Int) > 60 then (some (48,y158,false)) else ((spec_l7Read.f a0 0).bind fun bt162=>(if bt162.2.2=0 then (some (48,y158,false)) else (if bt162.2.2=(a0.size:Int) then (some (bt162.1,bt162.2.1,true)) else (some (48,y158,false))))))=some (r1,r2,r3):=by first|(rw [hy158];with_reducible exact H)|(have H2_:=(Option.bind_some _ _).symm.trans H;rw [hy158];with_reducible exact H2_)|(have H2_:=(Option.bind_some _ _).symm.trans H;with_reducible exact H2_)|with_reducible exact H|(rw [hy158];exact H)|exact H
 have Ny158:=Aside0.mk hy158
 clear hy158
 by_cases c2:(a0.size:Int) > 60
 ·rw [if_pos c2] at H
  have c2b0:decide (60<(a0.size:Int))=true:=decide_eq_true c2
  have c2b1:decide (60<a0.size)=true:=decide_eq_true (by omega)
  clear c2
  simp only [Option.some.injEq,Prod.mk.injEq] at H
  obtain ⟨rfl,rfl,rfl⟩:=H
  go_enter Try.func27,Try.ntmps27
  go_wp2_with (first|((with_reducible refine gate_dst (N:=2) rfl ?_);(try (refine gate_guard (by rfl) ?_;dsimp only));refine box_event ?hg (N:=2) ?hd (cs:=#[.int .u8 0,.slice none 0 0]) (t:=44) ?hr ?_;(case hd=>rfl);(case hg=>rfl);(case hr=>first|(go_simp;done)|(go_simp;rfl));intro gb157 hg w3 hbox hb;have n0_:=Aside0.mk (yP (by repeat (first|(with_reducible first|exact HB.out|apply yA|apply yB|apply yC)|exact HB.out)) hb);have n1_:=Aside0.mk (hbox);have n2_:=Aside0.mk ((by rw [hg];exact (yQ (by repeat (first|(with_reducible first|exact HB.out|apply yA|apply yB|apply yC)|exact HB.out))):w.heap.size≤gb157));have n3_:=Aside0.mk ((by rw [hg];exact (yQ (by repeat (first|(with_reducible first|exact HB.out|apply yA|apply yB|apply yC)|exact HB.out))):w.heap.size≤gb157));clear HB;have HB:=n0_;have BK157:=n1_;have GW157:=n2_;have GE157:=n3_;clear n0_ n1_ n2_ n3_;clear hb hbox hg)|((with_reducible refine gate_dst (N:=7) rfl ?_);(try (refine gate_guard (by rfl) ?_;dsimp only));refine Kd.R_lit k44 _ 44 ?hg (N:=7) ?hd (xs:=([]:List (S44))) (inner:=[]) (ok:=fun _=>True) (okp:=fun _=>True) ?hr ?hp (fun _ hk=>hk) trivial (Below.refl _ _) (Nat.le_refl _) (by simp) ?_;(case hd=>rfl);(case hg=>rfl);(case hr=>first|(go_simp;done)|(go_simp;rfl));(case hp=>exact (Reps.none _ _));intro v159 w4 ho5 hb hg_ hnew_;clear hg_ hnew_;(first|rw [← Ny158.out] at ho5|(simp only [Int.reduceToNat] at ho5;rw [← Ny158.out] at ho5));have n0_:=Aside0.mk (Kd.R_lower (Kd.R_newB ho5 (g:=gb157) (o:=.cells #[.int .u8 0,.slice none 0 0] 44 (0,0)) (by (with_reducible repeat (first|refine yE ?_ _|refine yF ?_|refine yG ?_ _));exact BK157.out)) (yQ (by repeat (first|(with_reducible first|exact HB.out|apply yA|apply yB|apply yC|refine yD ?_ GE157.out)|exact HB.out))));have n1_:=Aside0.mk (blk_below (g:=gb157) (o:=.cells #[.int .u8 0,.slice none 0 0] 44 (0,0)) (by (with_reducible repeat (first|refine yE ?_ _|refine yF ?_|refine yG ?_ _));exact BK157.out) hb);have n2_:=Aside0.mk (yP (by repeat (first|(with_reducible first|exact HB.out|apply yA|apply yB|apply yC|refine yD ?_ GE157.out)|exact HB.out)) hb);clear BK157;clear HB;have HO160:=n0_;have BK157:=n1_;have HB:=n2_;clear n0_ n1_ n2_;clear hb ho5;obtain ⟨Ao6,co6,eo6⟩:=Kd.R_slice HO160.out;subst eo6)|((with_reducible refine gate_dst (N:=4) rfl ?_);(try (refine gate_guard (by rfl) ?_;dsimp only));refine box_event ?hg (N:=4) ?hd (cs:=#[.int .u8 0,.slice none 0 0]) (t:=44) ?hr ?_;(case hd=>rfl);(case hg=>rfl);(case hr=>first|(go_simp;done)|(go_simp;rfl));intro gb161 hg w7 hbox hb;have n0_:=Aside0.mk (Kd.R_below (Kd.R_elderB (by (with_reducible repeat (first|apply yH|apply yI|apply yJ));exact HO160.out) gb161 (Nat.le_of_eq hg.symm)) hb);have n1_:=Aside0.mk (blk_below (g:=gb157) (o:=.cells #[.int .u8 0,.slice none 0 0] 44 (0,0)) (by (with_reducible repeat (first|refine yE ?_ _|refine yF ?_|refine yG ?_ _));exact BK157.out) hb);have n2_:=Aside0.mk (yP (by repeat (first|(with_reducible first|exact HB.out|apply yA|apply yB|apply yC|refine yD ?_ GE157.out)|exact HB.out)) hb);have n3_:=Aside0.mk (hbox);have n4_:=Aside0.mk ((by rw [hg];exact (yQ (by repeat (first|(with_reducible first|exact HB.out|apply yA|apply yB|apply yC|refine yD ?_ GE157.out)|exact HB.out))):w.heap.size≤gb161));have n5_:=Aside0.mk ((by rw [hg];exact (yQ (by repeat (first|(with_reducible first|exact HB.out|apply yA|apply yB|apply yC|refine yD ?_ GE157.out)|exact HB.out))):w.heap.size≤gb161));have n6_:=Aside0.mk ((by rw [hg];exact Nat.ne_of_lt (blk_lt (g:=gb157) (o:=.cells #[.int .u8 0,.slice none 0 0] 44 (0,0)) (by (with_reducible repeat (first|refine yE ?_ _|refine yF ?_|refine yG ?_ _));exact BK157.out)):gb157≠gb161));have n7_:=Aside0.mk ((by rw [hg];exact Nat.ne_of_gt (blk_lt (g:=gb157) (o:=.cells #[.int .u8 0,.slice none 0 0] 44 (0,0)) (by (with_reducible repeat (first|refine yE ?_ _|refine yF ?_|refine yG ?_ _));exact BK157.out)):gb161≠gb157));clear HO160;clear BK157;clear HB;have HO160:=n0_;have BK157:=n1_;have HB:=n2_;have BK161:=n3_;have GW161:=n4_;have GE161:=n5_;have NB157_161:=n6_;have NB161_157:=n7_;clear n0_ n1_ n2_ n3_ n4_ n5_ n6_ n7_;clear hb hbox hg;have hnb8:=NB161_157.out;have hnc8:=NB157_161.out;have hcz9_0:w7.cell? ⟨gb161,0,none⟩=some (.int .u8 0):=(blk_cell BK161.out 0).trans rfl;have hcz9_1:w7.cell? ⟨gb161,1,none⟩=some (.slice none 0 0):=(blk_cell BK161.out 1).trans rfl;have hfz9_0:=blk_frozen BK161.out 0;have hfz9_1:=blk_frozen BK161.out 1;have hcz10_0:w7.cell? ⟨gb157,0,none⟩=some (.int .u8 0):=(blk_cell BK157.out 0).trans rfl;have hcz10_1:w7.cell? ⟨gb157,1,none⟩=some (.slice none 0 0):=(blk_cell BK157.out 1).trans rfl;have hfz10_0:=blk_frozen BK157.out 0;have hfz10_1:=blk_frozen BK157.out 1))
  refine bodyPost_ret (results_ct rfl _ _ gb157 44 #[.int .u8 48,.slice Ao6 y158.length co6] (0,0) _ rfl (by (with_reducible repeat (first|refine yE ?_ _|refine yF ?_|refine yG ?_ _));refine blk_put (cs:=#[.int .u8 48,.slice none 0 0]) ?_ 1 _ rfl;(with_reducible repeat (first|refine yE ?_ _|refine yF ?_|refine yG ?_ _));refine blk_put (cs:=#[.int .u8 0,.slice none 0 0]) ?_ 0 _ rfl;(with_reducible repeat (first|refine yE ?_ _|refine yF ?_|refine yG ?_ _));refine blk_far ?_ NB157_161.out _;(with_reducible repeat (first|refine yE ?_ _|refine yF ?_|refine yG ?_ _));refine blk_far ?_ NB157_161.out _;(with_reducible repeat (first|refine yE ?_ _|refine yF ?_|refine yG ?_ _));exact BK157.out) Try.underlying44 rfl (by kernel_rfl)) rfl ?_
  exact ⟨_,by first|rfl|(simp [errW_none,errW_some]<;>rfl)|(simp [*,errW_none,errW_some]<;>rfl)|(simp [errW_none,errW_some];exact ⟨rfl,rfl⟩),by (with_reducible repeat (first|apply yH|apply yI|apply yJ));exact Kd.R_mono (Kd.R_far (p:=⟨gb157,1,none⟩) (Kd.R_far (p:=⟨gb157,0,none⟩) (Kd.R_far (p:=⟨gb161,1,none⟩) (Kd.R_far (p:=⟨gb161,0,none⟩) (Kd.R_mono (Kd.R_mono HO160.out (fun k_ hk=>(⟨hk,hk.2⟩:_∧k_≠gb161))) (fun k_ hk=>(⟨hk,hk.1.1.2⟩:_∧k_≠gb157))) (fun _ hk=>hk.1.2) (.int .u8 48)) (fun _ hk=>hk.1.2) (.slice Ao6 y158.length co6)) (fun _ hk=>hk.2) (.int .u8 48)) (fun _ hk=>hk.2) (.slice Ao6 y158.length co6)) (fun _ hk=>trivial),by repeat (first|(with_reducible first|exact HB.out|apply yA|apply yB|apply yC|refine yD ?_ GE157.out|refine yD ?_ GE161.out)|exact HB.out)⟩
 ·rw [if_neg c2] at H
  have c2b0:decide (60<(a0.size:Int))=false:=decide_eq_false c2
  have c2b1:decide (60<a0.size)=false:=decide_eq_false (by omega)
  clear c2
  replace H:=Option.bind_eq_some_iff.mp H
  obtain ⟨⟨t162,t163,t166⟩,A110,H⟩:=H
  replace H:(if t166=0 then (some (48,y158,false)) else (if t166=(a0.size:Int) then (some (t162,t163,true)) else (some (48,y158,false))))=some (r1,r2,r3):=H
  have A11:=Aside0.mk A110
  clear A110
  by_cases c12:t166=0
  ·rw [if_pos c12] at H
   have c12b0:(t166 == 0)=true:=beq_iff_eq.mpr c12
   have c12b1:(t166 != 0)=false:=bne_eq_false_iff_eq.mpr c12
   clear c12
   simp only [Option.some.injEq,Prod.mk.injEq] at H
   obtain ⟨rfl,rfl,rfl⟩:=H
   go_enter Try.func27,Try.ntmps27
   go_wp2_with (first|((with_reducible refine gate_dst (N:=2) rfl ?_);(try (refine gate_guard (by rfl) ?_;dsimp only));refine box_event ?hg (N:=2) ?hd (cs:=#[.int .u8 0,.slice none 0 0]) (t:=44) ?hr ?_;(case hd=>rfl);(case hg=>rfl);(case hr=>first|(go_simp;done)|(go_simp;rfl));intro gb157 hg w13 hbox hb;have n0_:=Aside0.mk (yP (by repeat (first|(with_reducible first|exact HB.out|apply yA|apply yB|apply yC)|exact HB.out)) hb);have n1_:=Aside0.mk (hbox);have n2_:=Aside0.mk ((by rw [hg];exact (yQ (by repeat (first|(with_reducible first|exact HB.out|apply yA|apply yB|apply yC)|exact HB.out))):w.heap.size≤gb157));have n3_:=Aside0.mk ((by rw [hg];exact (yQ (by repeat (first|(with_reducible first|exact HB.out|apply yA|apply yB|apply yC)|exact HB.out))):w.heap.size≤gb157));clear HB;have HB:=n0_;have BK157:=n1_;have GW157:=n2_;have GE157:=n3_;clear n0_ n1_ n2_ n3_;clear hb hbox hg)|((with_reducible refine gate_dst (N:=7) rfl ?_);(try (refine gate_guard (by rfl) ?_;dsimp only));refine Kd.R_lit k44 _ 44 ?hg (N:=7) ?hd (xs:=([]:List (S44))) (inner:=[]) (ok:=fun _=>True) (okp:=fun _=>True) ?hr ?hp (fun _ hk=>hk) trivial (Below.refl _ _) (Nat.le_refl _) (by simp) ?_;(case hd=>rfl);(case hg=>rfl);(case hr=>first|(go_simp;done)|(go_simp;rfl));(case hp=>exact (Reps.none _ _));intro v159 w14 ho15 hb hg_ hnew_;clear hg_ hnew_;(first|rw [← Ny158.out] at ho15|(simp only [Int.reduceToNat] at ho15;rw [← Ny158.out] at ho15));have n0_:=Aside0.mk (Kd.R_lower (Kd.R_newB ho15 (g:=gb157) (o:=.cells #[.int .u8 0,.slice none 0 0] 44 (0,0)) (by (with_reducible repeat (first|refine yE ?_ _|refine yF ?_|refine yG ?_ _));exact BK157.out)) (yQ (by repeat (first|(with_reducible first|exact HB.out|apply yA|apply yB|apply yC|refine yD ?_ GE157.out)|exact HB.out))));have n1_:=Aside0.mk (blk_below (g:=gb157) (o:=.cells #[.int .u8 0,.slice none 0 0] 44 (0,0)) (by (with_reducible repeat (first|refine yE ?_ _|refine yF ?_|refine yG ?_ _));exact BK157.out) hb);have n2_:=Aside0.mk (yP (by repeat (first|(with_reducible first|exact HB.out|apply yA|apply yB|apply yC|refine yD ?_ GE157.out)|exact HB.out)) hb);clear BK157;clear HB;have HO160:=n0_;have BK157:=n1_;have HB:=n2_;clear n0_ n1_ n2_;clear hb ho15;obtain ⟨Ao16,co16,eo16⟩:=Kd.R_slice HO160.out;subst eo16)|((with_reducible refine gate_dst (N:=4) rfl ?_);(try (refine gate_guard (by rfl) ?_;dsimp only));refine box_event ?hg (N:=4) ?hd (cs:=#[.int .u8 0,.slice none 0 0]) (t:=44) ?hr ?_;(case hd=>rfl);(case hg=>rfl);(case hr=>first|(go_simp;done)|(go_simp;rfl));intro gb161 hg w17 hbox hb;have n0_:=Aside0.mk (Kd.R_below (Kd.R_elderB (by (with_reducible repeat (first|apply yH|apply yI|apply yJ));exact HO160.out) gb161 (Nat.le_of_eq hg.symm)) hb);have n1_:=Aside0.mk (blk_below (g:=gb157) (o:=.cells #[.int .u8 0,.slice none 0 0] 44 (0,0)) (by (with_reducible repeat (first|refine yE ?_ _|refine yF ?_|refine yG ?_ _));exact BK157.out) hb);have n2_:=Aside0.mk (yP (by repeat (first|(with_reducible first|exact HB.out|apply yA|apply yB|apply yC|refine yD ?_ GE157.out)|exact HB.out)) hb);have n3_:=Aside0.mk (hbox);have n4_:=Aside0.mk ((by rw [hg];exact (yQ (by repeat (first|(with_reducible first|exact HB.out|apply yA|apply yB|apply yC|refine yD ?_ GE157.out)|exact HB.out))):w.heap.size≤gb161));have n5_:=Aside0.mk ((by rw [hg];exact (yQ (by repeat (first|(with_reducible first|exact HB.out|apply yA|apply yB|apply yC|refine yD ?_ GE157.out)|exact HB.out))):w.heap.size≤gb161));have n6_:=Aside0.mk ((by rw [hg];exact Nat.ne_of_lt (blk_lt (g:=gb157) (o:=.cells #[.int .u8 0,.slice none 0 0] 44 (0,0)) (by (with_reducible repeat (first|refine yE ?_ _|refine yF ?_|refine yG ?_ _));exact BK157.out)):gb157≠gb161));have n7_:=Aside0.mk ((by rw [hg];exact Nat.ne_of_gt (blk_lt (g:=gb157) (o:=.cells #[.int .u8 0,.slice none 0 0] 44 (0,0)) (by (with_reducible repeat (first|refine yE ?_ _|refine yF ?_|refine yG ?_ _));exact BK157.out)):gb161≠gb157));clear HO160;clear BK157;clear HB;have HO160:=n0_;have BK157:=n1_;have HB:=n2_;have BK161:=n3_;have GW161:=n4_;have GE161:=n5_;have NB157_161:=n6_;have NB161_157:=n7_;clear n0_ n1_ n2_ n3_ n4_ n5_ n6_ n7_;clear hb hbox hg;have hnb18:=NB161_157.out;have hnc18:=NB157_161.out;have hcz19_0:w17.cell? ⟨gb161,0,none⟩=some (.int .u8 0):=(blk_cell BK161.out 0).trans rfl;have hcz19_1:w17.cell? ⟨gb161,1,none⟩=some (.slice none 0 0):=(blk_cell BK161.out 1).trans rfl;have hfz19_0:=blk_frozen BK161.out 0;have hfz19_1:=blk_frozen BK161.out 1)|((with_reducible refine gate_callee (f:=40) rfl ?_);refine goesL_ (some 15) rfl rfl Try.func40 (by kernel_rfl) rfl #[.string a0,.int .i64 0] rfl (by (try simp only [List.map_toArray,List.map_cons,List.map_nil]);first|done|rfl|(simp only [List.length_drop,List.length_take];rfl)) ?_;(with_reducible refine (spec_l7Read.calls a0 0 t162 t163 t166 _ A11.out).mono ?_);rintro e w20 ⟨v164,rfl,ho0,hb⟩;refine ⟨_,rfl,?_⟩;have n0_:=Aside0.mk (Kd.R_elder' (by (with_reducible repeat (first|apply yH|apply yI|apply yJ));exact (Kd.R_mono (Kd.R_far (p:=⟨gb161,1,none⟩) (Kd.R_far (p:=⟨gb161,0,none⟩) (Kd.R_mono HO160.out (fun k_ hk=>(⟨hk,hk.2⟩:_∧k_≠gb161))) (fun _ hk=>hk.2) (.int .u8 48)) (fun _ hk=>hk.2) (.slice Ao16 y158.length co16)) (fun _ h_=>h_.1))) (Kd.R_base ho0) hb);have n1_:=Aside0.mk (Kd.R_lower (Kd.R_newB (Kd.R_newB (Kd.R_new' ho0 (Kd.R_lt (by (with_reducible repeat (first|apply yH|apply yI|apply yJ));exact (Kd.R_mono (Kd.R_far (p:=⟨gb161,1,none⟩) (Kd.R_far (p:=⟨gb161,0,none⟩) (Kd.R_mono HO160.out (fun k_ hk=>(⟨hk,hk.2⟩:_∧k_≠gb161))) (fun _ hk=>hk.2) (.int .u8 48)) (fun _ hk=>hk.2) (.slice Ao16 y158.length co16)) (fun _ h_=>h_.1))))) (g:=gb157) (o:=.cells #[.int .u8 0,.slice none 0 0] 44 (0,0)) (by (with_reducible repeat (first|refine yE ?_ _|refine yF ?_|refine yG ?_ _));refine blk_far ?_ NB157_161.out _;(with_reducible repeat (first|refine yE ?_ _|refine yF ?_|refine yG ?_ _));refine blk_far ?_ NB157_161.out _;(with_reducible repeat (first|refine yE ?_ _|refine yF ?_|refine yG ?_ _));exact BK157.out)) (g:=gb161) (o:=.cells #[.int .u8 48,.slice Ao16 y158.length co16] 44 (0,0)) (by (with_reducible repeat (first|refine yE ?_ _|refine yF ?_|refine yG ?_ _));refine blk_put (cs:=#[.int .u8 48,.slice none 0 0]) ?_ 1 _ rfl;(with_reducible repeat (first|refine yE ?_ _|refine yF ?_|refine yG ?_ _));refine blk_put (cs:=#[.int .u8 0,.slice none 0 0]) ?_ 0 _ rfl;(with_reducible repeat (first|refine yE ?_ _|refine yF ?_|refine yG ?_ _));exact BK161.out)) (yQ (by repeat (first|(with_reducible first|exact HB.out|apply yA|apply yB|apply yC|refine yD ?_ GE157.out|refine yD ?_ GE161.out)|exact HB.out))));have n2_:=Aside0.mk (blk_below (g:=gb157) (o:=.cells #[.int .u8 0,.slice none 0 0] 44 (0,0)) (by (with_reducible repeat (first|refine yE ?_ _|refine yF ?_|refine yG ?_ _));refine blk_far ?_ NB157_161.out _;(with_reducible repeat (first|refine yE ?_ _|refine yF ?_|refine yG ?_ _));refine blk_far ?_ NB157_161.out _;(with_reducible repeat (first|refine yE ?_ _|refine yF ?_|refine yG ?_ _));exact BK157.out) hb);have n3_:=Aside0.mk (blk_below (g:=gb161) (o:=.cells #[.int .u8 48,.slice Ao16 y158.length co16] 44 (0,0)) (by (with_reducible repeat (first|refine yE ?_ _|refine yF ?_|refine yG ?_ _));refine blk_put (cs:=#[.int .u8 48,.slice none 0 0]) ?_ 1 _ rfl;(with_reducible repeat (first|refine yE ?_ _|refine yF ?_|refine yG ?_ _));refine blk_put (cs:=#[.int .u8 0,.slice none 0 0]) ?_ 0 _ rfl;(with_reducible repeat (first|refine yE ?_ _|refine yF ?_|refine yG ?_ _));exact BK161.out) hb);have n4_:=Aside0.mk (yP (by repeat (first|(with_reducible first|exact HB.out|apply yA|apply yB|apply yC|refine yD ?_ GE157.out|refine yD ?_ GE161.out)|exact HB.out)) hb);clear HO160;clear BK157;clear BK161;clear HB;have HO160:=n0_;have HO165:=n1_;have BK157:=n2_;have BK161:=n3_;have HB:=n4_;clear n0_ n1_ n2_ n3_ n4_;(try clear hb);(try clear hb2);(try clear hk);(try clear hi);(try clear ho0))|((with_reducible refine gate_dst (N:=5) rfl ?_);(try (refine gate_guard (by rfl) ?_;dsimp only));refine box_event ?hg (N:=5) ?hd (cs:=#[.int .u8 0,.slice none 0 0]) (t:=44) ?hr ?_;(case hd=>rfl);(case hg=>rfl);(case hr=>first|(go_simp;done)|(go_simp;rfl));intro gb167 hg w21 hbox hb;have n0_:=Aside0.mk (Kd.R_below (Kd.R_elderB (by (with_reducible repeat (first|apply yH|apply yI|apply yJ));exact HO160.out) gb167 (Nat.le_of_eq hg.symm)) hb);have n1_:=Aside0.mk (Kd.R_below (Kd.R_elderB (by (with_reducible repeat (first|apply yH|apply yI|apply yJ));exact HO165.out) gb167 (Nat.le_of_eq hg.symm)) hb);have n2_:=Aside0.mk (blk_below (g:=gb157) (o:=.cells #[.int .u8 0,.slice none 0 0] 44 (0,0)) (by (with_reducible repeat (first|refine yE ?_ _|refine yF ?_|refine yG ?_ _));exact BK157.out) hb);have n3_:=Aside0.mk (blk_below (g:=gb161) (o:=.cells #[.int .u8 48,.slice Ao16 y158.length co16] 44 (0,0)) (by (with_reducible repeat (first|refine yE ?_ _|refine yF ?_|refine yG ?_ _));exact BK161.out) hb);have n4_:=Aside0.mk (yP (by repeat (first|(with_reducible first|exact HB.out|apply yA|apply yB|apply yC|refine yD ?_ GE157.out|refine yD ?_ GE161.out)|exact HB.out)) hb);have n5_:=Aside0.mk (hbox);have n6_:=Aside0.mk ((by rw [hg];exact (yQ (by repeat (first|(with_reducible first|exact HB.out|apply yA|apply yB|apply yC|refine yD ?_ GE157.out|refine yD ?_ GE161.out)|exact HB.out))):w.heap.size≤gb167));have n7_:=Aside0.mk ((by rw [hg];exact (yQ (by repeat (first|(with_reducible first|exact HB.out|apply yA|apply yB|apply yC|refine yD ?_ GE157.out|refine yD ?_ GE161.out)|exact HB.out))):w.heap.size≤gb167));have n8_:=Aside0.mk ((by rw [hg];exact Nat.ne_of_lt (blk_lt (g:=gb157) (o:=.cells #[.int .u8 0,.slice none 0 0] 44 (0,0)) (by (with_reducible repeat (first|refine yE ?_ _|refine yF ?_|refine yG ?_ _));exact BK157.out)):gb157≠gb167));have n9_:=Aside0.mk ((by rw [hg];exact Nat.ne_of_gt (blk_lt (g:=gb157) (o:=.cells #[.int .u8 0,.slice none 0 0] 44 (0,0)) (by (with_reducible repeat (first|refine yE ?_ _|refine yF ?_|refine yG ?_ _));exact BK157.out)):gb167≠gb157));have n10_:=Aside0.mk ((by rw [hg];exact Nat.ne_of_lt (blk_lt (g:=gb161) (o:=.cells #[.int .u8 48,.slice Ao16 y158.length co16] 44 (0,0)) (by (with_reducible repeat (first|refine yE ?_ _|refine yF ?_|refine yG ?_ _));exact BK161.out)):gb161≠gb167));have n11_:=Aside0.mk ((by rw [hg];exact Nat.ne_of_gt (blk_lt (g:=gb161) (o:=.cells #[.int .u8 48,.slice Ao16 y158.length co16] 44 (0,0)) (by (with_reducible repeat (first|refine yE ?_ _|refine yF ?_|refine yG ?_ _));exact BK161.out)):gb167≠gb161));clear HO160;clear HO165;clear BK157;clear BK161;clear HB;have HO160:=n0_;have HO165:=n1_;have BK157:=n2_;have BK161:=n3_;have HB:=n4_;have BK167:=n5_;have GW167:=n6_;have GE167:=n7_;have NB157_167:=n8_;have NB167_157:=n9_;have NB161_167:=n10_;have NB167_161:=n11_;clear n0_ n1_ n2_ n3_ n4_ n5_ n6_ n7_ n8_ n9_ n10_ n11_;clear hb hbox hg;have hnb22:=NB167_157.out;have hnc22:=NB157_167.out;have hnb23:=NB167_161.out;have hnc23:=NB161_167.out;have hcz24_0:w21.cell? ⟨gb167,0,none⟩=some (.int .u8 0):=(blk_cell BK167.out 0).trans rfl;have hcz24_1:w21.cell? ⟨gb167,1,none⟩=some (.slice none 0 0):=(blk_cell BK167.out 1).trans rfl;have hfz24_0:=blk_frozen BK167.out 0;have hfz24_1:=blk_frozen BK167.out 1;obtain ⟨Ao25,co25,eo25⟩:=Kd.R_slice HO165.out;subst eo25;have hcz26_0:w21.cell? ⟨gb161,0,none⟩=some (.int .u8 48):=(blk_cell BK161.out 0).trans rfl;have hcz26_1:w21.cell? ⟨gb161,1,none⟩=some (.slice Ao16 y158.length co16):=(blk_cell BK161.out 1).trans rfl;have hfz26_0:=blk_frozen BK161.out 0;have hfz26_1:=blk_frozen BK161.out 1;have hcz27_0:w21.cell? ⟨gb157,0,none⟩=some (.int .u8 0):=(blk_cell BK157.out 0).trans rfl;have hcz27_1:w21.cell? ⟨gb157,1,none⟩=some (.slice none 0 0):=(blk_cell BK157.out 1).trans rfl;have hfz27_0:=blk_frozen BK157.out 0;have hfz27_1:=blk_frozen BK157.out 1))
   refine bodyPost_ret (results_ct rfl _ _ gb157 44 #[.int .u8 48,.slice Ao16 y158.length co16] (0,0) _ rfl (by (with_reducible repeat (first|refine yE ?_ _|refine yF ?_|refine yG ?_ _));refine blk_put (cs:=#[.int .u8 48,.slice none 0 0]) ?_ 1 _ rfl;(with_reducible repeat (first|refine yE ?_ _|refine yF ?_|refine yG ?_ _));refine blk_put (cs:=#[.int .u8 0,.slice none 0 0]) ?_ 0 _ rfl;(with_reducible repeat (first|refine yE ?_ _|refine yF ?_|refine yG ?_ _));refine blk_far ?_ NB157_167.out _;(with_reducible repeat (first|refine yE ?_ _|refine yF ?_|refine yG ?_ _));refine blk_far ?_ NB157_167.out _;(with_reducible repeat (first|refine yE ?_ _|refine yF ?_|refine yG ?_ _));exact BK157.out) Try.underlying44 rfl (by kernel_rfl)) rfl ?_
   exact ⟨_,by first|rfl|(simp [errW_none,errW_some]<;>rfl)|(simp [*,errW_none,errW_some]<;>rfl)|(simp [errW_none,errW_some];exact ⟨rfl,rfl⟩),by (with_reducible repeat (first|apply yH|apply yI|apply yJ));exact Kd.R_mono (Kd.R_far (p:=⟨gb157,1,none⟩) (Kd.R_far (p:=⟨gb157,0,none⟩) (Kd.R_far (p:=⟨gb167,1,none⟩) (Kd.R_far (p:=⟨gb167,0,none⟩) (Kd.R_mono (Kd.R_mono HO160.out (fun k_ hk=>(⟨hk,hk.2⟩:_∧k_≠gb167))) (fun k_ hk=>(⟨hk,hk.1.1.1.1.2⟩:_∧k_≠gb157))) (fun _ hk=>hk.1.2) (.int .u8 t162)) (fun _ hk=>hk.1.2) (.slice Ao25 t163.length co25)) (fun _ hk=>hk.2) (.int .u8 48)) (fun _ hk=>hk.2) (.slice Ao16 y158.length co16)) (fun _ hk=>trivial),by repeat (first|(with_reducible first|exact HB.out|apply yA|apply yB|apply yC|refine yD ?_ GE157.out|refine yD ?_ GE161.out|refine yD ?_ GE167.out)|exact HB.out)⟩
  ·rw [if_neg c12] at H
   have c12b0:(t166 == 0)=false:=beq_eq_false_iff_ne.mpr c12
   have c12b1:(t166 != 0)=true:=bne_iff_ne.mpr c12
   by_cases c28:t166=(a0.size:Int)
   ·rw [if_pos c28] at H
    have c28b0:(t166 == (a0.size:Int))=true:=beq_iff_eq.mpr c28
    have c28b1:(t166 != (a0.size:Int))=false:=bne_eq_false_iff_eq.mpr c28
    clear c28
    simp only [Option.some.injEq,Prod.mk.injEq] at H
    obtain ⟨rfl,rfl,rfl⟩:=H
    go_enter Try.func27,Try.ntmps27
    go_wp2_with (first|((with_reducible refine gate_dst (N:=2) rfl ?_);(try (refine gate_guard (by rfl) ?_;dsimp only));refine box_event ?hg (N:=2) ?hd (cs:=#[.int .u8 0,.slice none 0 0]) (t:=44) ?hr ?_;(case hd=>rfl);(case hg=>rfl);(case hr=>first|(go_simp;done)|(go_simp;rfl));intro gb157 hg w29 hbox hb;have n0_:=Aside0.mk (yP (by repeat (first|(with_reducible first|exact HB.out|apply yA|apply yB|apply yC)|exact HB.out)) hb);have n1_:=Aside0.mk (hbox);have n2_:=Aside0.mk ((by rw [hg];exact (yQ (by repeat (first|(with_reducible first|exact HB.out|apply yA|apply yB|apply yC)|exact HB.out))):w.heap.size≤gb157));have n3_:=Aside0.mk ((by rw [hg];exact (yQ (by repeat (first|(with_reducible first|exact HB.out|apply yA|apply yB|apply yC)|exact HB.out))):w.heap.size≤gb157));clear HB;have HB:=n0_;have BK157:=n1_;have GW157:=n2_;have GE157:=n3_;clear n0_ n1_ n2_ n3_;clear hb hbox hg)|((with_reducible refine gate_dst (N:=7) rfl ?_);(try (refine gate_guard (by rfl) ?_;dsimp only));refine Kd.R_lit k44 _ 44 ?hg (N:=7) ?hd (xs:=([]:List (S44))) (inner:=[]) (ok:=fun _=>True) (okp:=fun _=>True) ?hr ?hp (fun _ hk=>hk) trivial (Below.refl _ _) (Nat.le_refl _) (by simp) ?_;(case hd=>rfl);(case hg=>rfl);(case hr=>first|(go_simp;done)|(go_simp;rfl));(case hp=>exact (Reps.none _ _));intro v159 w30 ho31 hb hg_ hnew_;clear hg_ hnew_;(first|rw [← Ny158.out] at ho31|(simp only [Int.reduceToNat] at ho31;rw [← Ny158.out] at ho31));have n0_:=Aside0.mk (Kd.R_lower (Kd.R_newB ho31 (g:=gb157) (o:=.cells #[.int .u8 0,.slice none 0 0] 44 (0,0)) (by (with_reducible repeat (first|refine yE ?_ _|refine yF ?_|refine yG ?_ _));exact BK157.out)) (yQ (by repeat (first|(with_reducible first|exact HB.out|apply yA|apply yB|apply yC|refine yD ?_ GE157.out)|exact HB.out))));have n1_:=Aside0.mk (blk_below (g:=gb157) (o:=.cells #[.int .u8 0,.slice none 0 0] 44 (0,0)) (by (with_reducible repeat (first|refine yE ?_ _|refine yF ?_|refine yG ?_ _));exact BK157.out) hb);have n2_:=Aside0.mk (yP (by repeat (first|(with_reducible first|exact HB.out|apply yA|apply yB|apply yC|refine yD ?_ GE157.out)|exact HB.out)) hb);clear BK157;clear HB;have HO160:=n0_;have BK157:=n1_;have HB:=n2_;clear n0_ n1_ n2_;clear hb ho31;obtain ⟨Ao32,co32,eo32⟩:=Kd.R_slice HO160.out;subst eo32)|((with_reducible refine gate_dst (N:=4) rfl ?_);(try (refine gate_guard (by rfl) ?_;dsimp only));refine box_event ?hg (N:=4) ?hd (cs:=#[.int .u8 0,.slice none 0 0]) (t:=44) ?hr ?_;(case hd=>rfl);(case hg=>rfl);(case hr=>first|(go_simp;done)|(go_simp;rfl));intro gb161 hg w33 hbox hb;have n0_:=Aside0.mk (Kd.R_below (Kd.R_elderB (by (with_reducible repeat (first|apply yH|apply yI|apply yJ));exact HO160.out) gb161 (Nat.le_of_eq hg.symm)) hb);have n1_:=Aside0.mk (blk_below (g:=gb157) (o:=.cells #[.int .u8 0,.slice none 0 0] 44 (0,0)) (by (with_reducible repeat (first|refine yE ?_ _|refine yF ?_|refine yG ?_ _));exact BK157.out) hb);have n2_:=Aside0.mk (yP (by repeat (first|(with_reducible first|exact HB.out|apply yA|apply yB|apply yC|refine yD ?_ GE157.out)|exact HB.out)) hb);have n3_:=Aside0.mk (hbox);have n4_:=Aside0.mk ((by rw [hg];exact (yQ (by repeat (first|(with_reducible first|exact HB.out|apply yA|apply yB|apply yC|refine yD ?_ GE157.out)|exact HB.out))):w.heap.size≤gb161));have n5_:=Aside0.mk ((by rw [hg];exact (yQ (by repeat (first|(with_reducible first|exact HB.out|apply yA|apply yB|apply yC|refine yD ?_ GE157.out)|exact HB.out))):w.heap.size≤gb161));have n6_:=Aside0.mk ((by rw [hg];exact Nat.ne_of_lt (blk_lt (g:=gb157) (o:=.cells #[.int .u8 0,.slice none 0 0] 44 (0,0)) (by (with_reducible repeat (first|refine yE ?_ _|refine yF ?_|refine yG ?_ _));exact BK157.out)):gb157≠gb161));have n7_:=Aside0.mk ((by rw [hg];exact Nat.ne_of_gt (blk_lt (g:=gb157) (o:=.cells #[.int .u8 0,.slice none 0 0] 44 (0,0)) (by (with_reducible repeat (first|refine yE ?_ _|refine yF ?_|refine yG ?_ _));exact BK157.out)):gb161≠gb157));clear HO160;clear BK157;clear HB;have HO160:=n0_;have BK157:=n1_;have HB:=n2_;have BK161:=n3_;have GW161:=n4_;have GE161:=n5_;have NB157_161:=n6_;have NB161_157:=n7_;clear n0_ n1_ n2_ n3_ n4_ n5_ n6_ n7_;clear hb hbox hg;have hnb34:=NB161_157.out;have hnc34:=NB157_161.out;have hcz35_0:w33.cell? ⟨gb161,0,none⟩=some (.int .u8 0):=(blk_cell BK161.out 0).trans rfl;have hcz35_1:w33.cell? ⟨gb161,1,none⟩=some (.slice none 0 0):=(blk_cell BK161.out 1).trans rfl;have hfz35_0:=blk_frozen BK161.out 0;have hfz35_1:=blk_frozen BK161.out 1)|((with_reducible refine gate_callee (f:=40) rfl ?_);refine goesL_ (some 15) rfl rfl Try.func40 (by kernel_rfl) rfl #[.string a0,.int .i64 0] rfl (by (try simp only [List.map_toArray,List.map_cons,List.map_nil]);first|done|rfl|(simp only [List.length_drop,List.length_take];rfl)) ?_;(with_reducible refine (spec_l7Read.calls a0 0 t162 t163 t166 _ A11.out).mono ?_);rintro e w36 ⟨v164,rfl,ho0,hb⟩;refine ⟨_,rfl,?_⟩;have n0_:=Aside0.mk (Kd.R_elder' (by (with_reducible repeat (first|apply yH|apply yI|apply yJ));exact (Kd.R_mono (Kd.R_far (p:=⟨gb161,1,none⟩) (Kd.R_far (p:=⟨gb161,0,none⟩) (Kd.R_mono HO160.out (fun k_ hk=>(⟨hk,hk.2⟩:_∧k_≠gb161))) (fun _ hk=>hk.2) (.int .u8 48)) (fun _ hk=>hk.2) (.slice Ao32 y158.length co32)) (fun _ h_=>h_.1))) (Kd.R_base ho0) hb);have n1_:=Aside0.mk (Kd.R_lower (Kd.R_newB (Kd.R_newB (Kd.R_new' ho0 (Kd.R_lt (by (with_reducible repeat (first|apply yH|apply yI|apply yJ));exact (Kd.R_mono (Kd.R_far (p:=⟨gb161,1,none⟩) (Kd.R_far (p:=⟨gb161,0,none⟩) (Kd.R_mono HO160.out (fun k_ hk=>(⟨hk,hk.2⟩:_∧k_≠gb161))) (fun _ hk=>hk.2) (.int .u8 48)) (fun _ hk=>hk.2) (.slice Ao32 y158.length co32)) (fun _ h_=>h_.1))))) (g:=gb157) (o:=.cells #[.int .u8 0,.slice none 0 0] 44 (0,0)) (by (with_reducible repeat (first|refine yE ?_ _|refine yF ?_|refine yG ?_ _));refine blk_far ?_ NB157_161.out _;(with_reducible repeat (first|refine yE ?_ _|refine yF ?_|refine yG ?_ _));refine blk_far ?_ NB157_161.out _;(with_reducible repeat (first|refine yE ?_ _|refine yF ?_|refine yG ?_ _));exact BK157.out)) (g:=gb161) (o:=.cells #[.int .u8 48,.slice Ao32 y158.length co32] 44 (0,0)) (by (with_reducible repeat (first|refine yE ?_ _|refine yF ?_|refine yG ?_ _));refine blk_put (cs:=#[.int .u8 48,.slice none 0 0]) ?_ 1 _ rfl;(with_reducible repeat (first|refine yE ?_ _|refine yF ?_|refine yG ?_ _));refine blk_put (cs:=#[.int .u8 0,.slice none 0 0]) ?_ 0 _ rfl;(with_reducible repeat (first|refine yE ?_ _|refine yF ?_|refine yG ?_ _));exact BK161.out)) (yQ (by repeat (first|(with_reducible first|exact HB.out|apply yA|apply yB|apply yC|refine yD ?_ GE157.out|refine yD ?_ GE161.out)|exact HB.out))));have n2_:=Aside0.mk (blk_below (g:=gb157) (o:=.cells #[.int .u8 0,.slice none 0 0] 44 (0,0)) (by (with_reducible repeat (first|refine yE ?_ _|refine yF ?_|refine yG ?_ _));refine blk_far ?_ NB157_161.out _;(with_reducible repeat (first|refine yE ?_ _|refine yF ?_|refine yG ?_ _));refine blk_far ?_ NB157_161.out _;(with_reducible repeat (first|refine yE ?_ _|refine yF ?_|refine yG ?_ _));exact BK157.out) hb);have n3_:=Aside0.mk (blk_below (g:=gb161) (o:=.cells #[.int .u8 48,.slice Ao32 y158.length co32] 44 (0,0)) (by (with_reducible repeat (first|refine yE ?_ _|refine yF ?_|refine yG ?_ _));refine blk_put (cs:=#[.int .u8 48,.slice none 0 0]) ?_ 1 _ rfl;(with_reducible repeat (first|refine yE ?_ _|refine yF ?_|refine yG ?_ _));refine blk_put (cs:=#[.int .u8 0,.slice none 0 0]) ?_ 0 _ rfl;(with_reducible repeat (first|refine yE ?_ _|refine yF ?_|refine yG ?_ _));exact BK161.out) hb);have n4_:=Aside0.mk (yP (by repeat (first|(with_reducible first|exact HB.out|apply yA|apply yB|apply yC|refine yD ?_ GE157.out|refine yD ?_ GE161.out)|exact HB.out)) hb);clear HO160;clear BK157;clear BK161;clear HB;have HO160:=n0_;have HO165:=n1_;have BK157:=n2_;have BK161:=n3_;have HB:=n4_;clear n0_ n1_ n2_ n3_ n4_;(try clear hb);(try clear hb2);(try clear hk);(try clear hi);(try clear ho0))|((with_reducible refine gate_dst (N:=5) rfl ?_);(try (refine gate_guard (by rfl) ?_;dsimp only));refine box_event ?hg (N:=5) ?hd (cs:=#[.int .u8 0,.slice none 0 0]) (t:=44) ?hr ?_;(case hd=>rfl);(case hg=>rfl);(case hr=>first|(go_simp;done)|(go_simp;rfl));intro gb167 hg w37 hbox hb;have n0_:=Aside0.mk (Kd.R_below (Kd.R_elderB (by (with_reducible repeat (first|apply yH|apply yI|apply yJ));exact HO160.out) gb167 (Nat.le_of_eq hg.symm)) hb);have n1_:=Aside0.mk (Kd.R_below (Kd.R_elderB (by (with_reducible repeat (first|apply yH|apply yI|apply yJ));exact HO165.out) gb167 (Nat.le_of_eq hg.symm)) hb);have n2_:=Aside0.mk (blk_below (g:=gb157) (o:=.cells #[.int .u8 0,.slice none 0 0] 44 (0,0)) (by (with_reducible repeat (first|refine yE ?_ _|refine yF ?_|refine yG ?_ _));exact BK157.out) hb);have n3_:=Aside0.mk (blk_below (g:=gb161) (o:=.cells #[.int .u8 48,.slice Ao32 y158.length co32] 44 (0,0)) (by (with_reducible repeat (first|refine yE ?_ _|refine yF ?_|refine yG ?_ _));exact BK161.out) hb);have n4_:=Aside0.mk (yP (by repeat (first|(with_reducible first|exact HB.out|apply yA|apply yB|apply yC|refine yD ?_ GE157.out|refine yD ?_ GE161.out)|exact HB.out)) hb);have n5_:=Aside0.mk (hbox);have n6_:=Aside0.mk ((by rw [hg];exact (yQ (by repeat (first|(with_reducible first|exact HB.out|apply yA|apply yB|apply yC|refine yD ?_ GE157.out|refine yD ?_ GE161.out)|exact HB.out))):w.heap.size≤gb167));have n7_:=Aside0.mk ((by rw [hg];exact (yQ (by repeat (first|(with_reducible first|exact HB.out|apply yA|apply yB|apply yC|refine yD ?_ GE157.out|refine yD ?_ GE161.out)|exact HB.out))):w.heap.size≤gb167));have n8_:=Aside0.mk ((by rw [hg];exact Nat.ne_of_lt (blk_lt (g:=gb157) (o:=.cells #[.int .u8 0,.slice none 0 0] 44 (0,0)) (by (with_reducible repeat (first|refine yE ?_ _|refine yF ?_|refine yG ?_ _));exact BK157.out)):gb157≠gb167));have n9_:=Aside0.mk ((by rw [hg];exact Nat.ne_of_gt (blk_lt (g:=gb157) (o:=.cells #[.int .u8 0,.slice none 0 0] 44 (0,0)) (by (with_reducible repeat (first|refine yE ?_ _|refine yF ?_|refine yG ?_ _));exact BK157.out)):gb167≠gb157));have n10_:=Aside0.mk ((by rw [hg];exact Nat.ne_of_lt (blk_lt (g:=gb161) (o:=.cells #[.int .u8 48,.slice Ao32 y158.length co32] 44 (0,0)) (by (with_reducible repeat (first|refine yE ?_ _|refine yF ?_|refine yG ?_ _));exact BK161.out)):gb161≠gb167));have n11_:=Aside0.mk ((by rw [hg];exact Nat.ne_of_gt (blk_lt (g:=gb161) (o:=.cells #[.int .u8 48,.slice Ao32 y158.length co32] 44 (0,0)) (by (with_reducible repeat (first|refine yE ?_ _|refine yF ?_|refine yG ?_ _));exact BK161.out)):gb167≠gb161));clear HO160;clear HO165;clear BK157;clear BK161;clear HB;have HO160:=n0_;have HO165:=n1_;have BK157:=n2_;have BK161:=n3_;have HB:=n4_;have BK167:=n5_;have GW167:=n6_;have GE167:=n7_;have NB157_167:=n8_;have NB167_157:=n9_;have NB161_167:=n10_;have NB167_161:=n11_;clear n0_ n1_ n2_ n3_ n4_ n5_ n6_ n7_ n8_ n9_ n10_ n11_;clear hb hbox hg;have hnb38:=NB167_157.out;have hnc38:=NB157_167.out;have hnb39:=NB167_161.out;have hnc39:=NB161_167.out;have hcz40_0:w37.cell? ⟨gb167,0,none⟩=some (.int .u8 0):=(blk_cell BK167.out 0).trans rfl;have hcz40_1:w37.cell? ⟨gb167,1,none⟩=some (.slice none 0 0):=(blk_cell BK167.out 1).trans rfl;have hfz40_0:=blk_frozen BK167.out 0;have hfz40_1:=blk_frozen BK167.out 1;obtain ⟨Ao41,co41,eo41⟩:=Kd.R_slice HO165.out;subst eo41;have hcz42_0:w37.cell? ⟨gb157,0,none⟩=some (.int .u8 0):=(blk_cell BK157.out 0).trans rfl;have hcz42_1:w37.cell? ⟨gb157,1,none⟩=some (.slice none 0 0):=(blk_cell BK157.out 1).trans rfl;have hfz42_0:=blk_frozen BK157.out 0;have hfz42_1:=blk_frozen BK157.out 1))
    refine bodyPost_ret (results_ct rfl _ _ gb157 44 #[.int .u8 t162,.slice Ao41 t163.length co41] (0,0) _ rfl (by (with_reducible repeat (first|refine yE ?_ _|refine yF ?_|refine yG ?_ _));refine blk_put (cs:=#[.int .u8 t162,.slice none 0 0]) ?_ 1 _ rfl;(with_reducible repeat (first|refine yE ?_ _|refine yF ?_|refine yG ?_ _));refine blk_put (cs:=#[.int .u8 0,.slice none 0 0]) ?_ 0 _ rfl;(with_reducible repeat (first|refine yE ?_ _|refine yF ?_|refine yG ?_ _));refine blk_far ?_ NB157_167.out _;(with_reducible repeat (first|refine yE ?_ _|refine yF ?_|refine yG ?_ _));refine blk_far ?_ NB157_167.out _;(with_reducible repeat (first|refine yE ?_ _|refine yF ?_|refine yG ?_ _));exact BK157.out) Try.underlying44 rfl (by kernel_rfl)) rfl ?_
    exact ⟨_,by first|rfl|(simp [errW_none,errW_some]<;>rfl)|(simp [*,errW_none,errW_some]<;>rfl)|(simp [errW_none,errW_some];exact ⟨rfl,rfl⟩),by (with_reducible repeat (first|apply yH|apply yI|apply yJ));exact Kd.R_mono (Kd.R_far (p:=⟨gb157,1,none⟩) (Kd.R_far (p:=⟨gb157,0,none⟩) (Kd.R_far (p:=⟨gb167,1,none⟩) (Kd.R_far (p:=⟨gb167,0,none⟩) (Kd.R_mono (Kd.R_mono HO165.out (fun k_ hk=>(⟨hk,hk.2⟩:_∧k_≠gb167))) (fun k_ hk=>(⟨hk,hk.1.1.1.2⟩:_∧k_≠gb157))) (fun _ hk=>hk.1.2) (.int .u8 t162)) (fun _ hk=>hk.1.2) (.slice Ao41 t163.length co41)) (fun _ hk=>hk.2) (.int .u8 t162)) (fun _ hk=>hk.2) (.slice Ao41 t163.length co41)) (fun _ hk=>trivial),by repeat (first|(with_reducible first|exact HB.out|apply yA|apply yB|apply yC|refine yD ?_ GE157.out|refine yD ?_ GE161.out|refine yD ?_ GE167.out)|exact HB.out)⟩
   ·rw [if_neg c28] at H
    have c28b0:(t166 == (a0.size:Int))=false:=beq_eq_false_iff_ne.mpr c28
    have c28b1:(t166 != (a0.size:Int))=true:=bne_iff_ne.mpr c28
    simp only [Option.some.injEq,Prod.mk.injEq] at H
    obtain ⟨rfl,rfl,rfl⟩:=H
    go_enter Try.func27,Try.ntmps27
    go_wp2_with (first|((with_reducible refine gate_dst (N:=2) rfl ?_);(try (refine gate_guard (by rfl) ?_;dsimp only));refine box_event ?hg (N:=2) ?hd (cs:=#[.int .u8 0,.slice none 0 0]) (t:=44) ?hr ?_;(case hd=>rfl);(case hg=>rfl);(case hr=>first|(go_simp;done)|(go_simp;rfl));intro gb157 hg w43 hbox hb;have n0_:=Aside0.mk (yP (by repeat (first|(with_reducible first|exact HB.out|apply yA|apply yB|apply yC)|exact HB.out)) hb);have n1_:=Aside0.mk (hbox);have n2_:=Aside0.mk ((by rw [hg];exact (yQ (by repeat (first|(with_reducible first|exact HB.out|apply yA|apply yB|apply yC)|exact HB.out))):w.heap.size≤gb157));have n3_:=Aside0.mk ((by rw [hg];exact (yQ (by repeat (first|(with_reducible first|exact HB.out|apply yA|apply yB|apply yC)|exact HB.out))):w.heap.size≤gb157));clear HB;have HB:=n0_;have BK157:=n1_;have GW157:=n2_;have GE157:=n3_;clear n0_ n1_ n2_ n3_;clear hb hbox hg)|((with_reducible refine gate_dst (N:=7) rfl ?_);(try (refine gate_guard (by rfl) ?_;dsimp only));refine Kd.R_lit k44 _ 44 ?hg (N:=7) ?hd (xs:=([]:List (S44))) (inner:=[]) (ok:=fun _=>True) (okp:=fun _=>True) ?hr ?hp (fun _ hk=>hk) trivial (Below.refl _ _) (Nat.le_refl _) (by simp) ?_;(case hd=>rfl);(case hg=>rfl);(case hr=>first|(go_simp;done)|(go_simp;rfl));(case hp=>exact (Reps.none _ _));intro v159 w44 ho45 hb hg_ hnew_;clear hg_ hnew_;(first|rw [← Ny158.out] at ho45|(simp only [Int.reduceToNat] at ho45;rw [← Ny158.out] at ho45));have n0_:=Aside0.mk (Kd.R_lower (Kd.R_newB ho45 (g:=gb157) (o:=.cells #[.int .u8 0,.slice none 0 0] 44 (0,0)) (by (with_reducible repeat (first|refine yE ?_ _|refine yF ?_|refine yG ?_ _));exact BK157.out)) (yQ (by repeat (first|(with_reducible first|exact HB.out|apply yA|apply yB|apply yC|refine yD ?_ GE157.out)|exact HB.out))));have n1_:=Aside0.mk (blk_below (g:=gb157) (o:=.cells #[.int .u8 0,.slice none 0 0] 44 (0,0)) (by (with_reducible repeat (first|refine yE ?_ _|refine yF ?_|refine yG ?_ _));exact BK157.out) hb);have n2_:=Aside0.mk (yP (by repeat (first|(with_reducible first|exact HB.out|apply yA|apply yB|apply yC|refine yD ?_ GE157.out)|exact HB.out)) hb);clear BK157;clear HB;have HO160:=n0_;have BK157:=n1_;have HB:=n2_;clear n0_ n1_ n2_;clear hb ho45;obtain ⟨Ao46,co46,eo46⟩:=Kd.R_slice HO160.out;subst eo46)|((with_reducible refine gate_dst (N:=4) rfl ?_);(try (refine gate_guard (by rfl) ?_;dsimp only));refine box_event ?hg (N:=4) ?hd (cs:=#[.int .u8 0,.slice none 0 0]) (t:=44) ?hr ?_;(case hd=>rfl);(case hg=>rfl);(case hr=>first|(go_simp;done)|(go_simp;rfl));intro gb161 hg w47 hbox hb;have n0_:=Aside0.mk (Kd.R_below (Kd.R_elderB (by (with_reducible repeat (first|apply yH|apply yI|apply yJ));exact HO160.out) gb161 (Nat.le_of_eq hg.symm)) hb);have n1_:=Aside0.mk (blk_below (g:=gb157) (o:=.cells #[.int .u8 0,.slice none 0 0] 44 (0,0)) (by (with_reducible repeat (first|refine yE ?_ _|refine yF ?_|refine yG ?_ _));exact BK157.out) hb);have n2_:=Aside0.mk (yP (by repeat (first|(with_reducible first|exact HB.out|apply yA|apply yB|apply yC|refine yD ?_ GE157.out)|exact HB.out)) hb);have n3_:=Aside0.mk (hbox);have n4_:=Aside0.mk ((by rw [hg];exact (yQ (by repeat (first|(with_reducible first|exact HB.out|apply yA|apply yB|apply yC|refine yD ?_ GE157.out)|exact HB.out))):w.heap.size≤gb161));have n5_:=Aside0.mk ((by rw [hg];exact (yQ (by repeat (first|(with_reducible first|exact HB.out|apply yA|apply yB|apply yC|refine yD ?_ GE157.out)|exact HB.out))):w.heap.size≤gb161));have n6_:=Aside0.mk ((by rw [hg];exact Nat.ne_of_lt (blk_lt (g:=gb157) (o:=.cells #[.int .u8 0,.slice none 0 0] 44 (0,0)) (by (with_reducible repeat (first|refine yE ?_ _|refine yF ?_|refine yG ?_ _));exact BK157.out)):gb157≠gb161));have n7_:=Aside0.mk ((by rw [hg];exact Nat.ne_of_gt (blk_lt (g:=gb157) (o:=.cells #[.int .u8 0,.slice none 0 0] 44 (0,0)) (by (with_reducible repeat (first|refine yE ?_ _|refine yF ?_|refine yG ?_ _));exact BK157.out)):gb161≠gb157));clear HO160;clear BK157;clear HB;have HO160:=n0_;have BK157:=n1_;have HB:=n2_;have BK161:=n3_;have GW161:=n4_;have GE161:=n5_;have NB157_161:=n6_;have NB161_157:=n7_;clear n0_ n1_ n2_ n3_ n4_ n5_ n6_ n7_;clear hb hbox hg;have hnb48:=NB161_157.out;have hnc48:=NB157_161.out;have hcz49_0:w47.cell? ⟨gb161,0,none⟩=some (.int .u8 0):=(blk_cell BK161.out 0).trans rfl;have hcz49_1:w47.cell? ⟨gb161,1,none⟩=some (.slice none 0 0):=(blk_cell BK161.out 1).trans rfl;have hfz49_0:=blk_frozen BK161.out 0;have hfz49_1:=blk_frozen BK161.out 1)|((with_reducible refine gate_callee (f:=40) rfl ?_);refine goesL_ (some 15) rfl rfl Try.func40 (by kernel_rfl) rfl #[.string a0,.int .i64 0] rfl (by (try simp only [List.map_toArray,List.map_cons,List.map_nil]);first|done|rfl|(simp only [List.length_drop,List.length_take];rfl)) ?_;(with_reducible refine (spec_l7Read.calls a0 0 t162 t163 t166 _ A11.out).mono ?_);rintro e w50 ⟨v164,rfl,ho0,hb⟩;refine ⟨_,rfl,?_⟩;have n0_:=Aside0.mk (Kd.R_elder' (by (with_reducible repeat (first|apply yH|apply yI|apply yJ));exact (Kd.R_mono (Kd.R_far (p:=⟨gb161,1,none⟩) (Kd.R_far (p:=⟨gb161,0,none⟩) (Kd.R_mono HO160.out (fun k_ hk=>(⟨hk,hk.2⟩:_∧k_≠gb161))) (fun _ hk=>hk.2) (.int .u8 48)) (fun _ hk=>hk.2) (.slice Ao46 y158.length co46)) (fun _ h_=>h_.1))) (Kd.R_base ho0) hb);have n1_:=Aside0.mk (Kd.R_lower (Kd.R_newB (Kd.R_newB (Kd.R_new' ho0 (Kd.R_lt (by (with_reducible repeat (first|apply yH|apply yI|apply yJ));exact (Kd.R_mono (Kd.R_far (p:=⟨gb161,1,none⟩) (Kd.R_far (p:=⟨gb161,0,none⟩) (Kd.R_mono HO160.out (fun k_ hk=>(⟨hk,hk.2⟩:_∧k_≠gb161))) (fun _ hk=>hk.2) (.int .u8 48)) (fun _ hk=>hk.2) (.slice Ao46 y158.length co46)) (fun _ h_=>h_.1))))) (g:=gb157) (o:=.cells #[.int .u8 0,.slice none 0 0] 44 (0,0)) (by (with_reducible repeat (first|refine yE ?_ _|refine yF ?_|refine yG ?_ _));refine blk_far ?_ NB157_161.out _;(with_reducible repeat (first|refine yE ?_ _|refine yF ?_|refine yG ?_ _));refine blk_far ?_ NB157_161.out _;(with_reducible repeat (first|refine yE ?_ _|refine yF ?_|refine yG ?_ _));exact BK157.out)) (g:=gb161) (o:=.cells #[.int .u8 48,.slice Ao46 y158.length co46] 44 (0,0)) (by (with_reducible repeat (first|refine yE ?_ _|refine yF ?_|refine yG ?_ _));refine blk_put (cs:=#[.int .u8 48,.slice none 0 0]) ?_ 1 _ rfl;(with_reducible repeat (first|refine yE ?_ _|refine yF ?_|refine yG ?_ _));refine blk_put (cs:=#[.int .u8 0,.slice none 0 0]) ?_ 0 _ rfl;(with_reducible repeat (first|refine yE ?_ _|refine yF ?_|refine yG ?_ _));exact BK161.out)) (yQ (by repeat (first|(with_reducible first|exact HB.out|apply yA|apply yB|apply yC|refine yD ?_ GE157.out|refine yD ?_ GE161.out)|exact HB.out))));have n2_:=Aside0.mk (blk_below (g:=gb157) (o:=.cells #[.int .u8 0,.slice none 0 0] 44 (0,0)) (by (with_reducible repeat (first|refine yE ?_ _|refine yF ?_|refine yG ?_ _));refine blk_far ?_ NB157_161.out _;(with_reducible repeat (first|refine yE ?_ _|refine yF ?_|refine yG ?_ _));refine blk_far ?_ NB157_161.out _;(with_reducible repeat (first|refine yE ?_ _|refine yF ?_|refine yG ?_ _));exact BK157.out) hb);have n3_:=Aside0.mk (blk_below (g:=gb161) (o:=.cells #[.int .u8 48,.slice Ao46 y158.length co46] 44 (0,0)) (by (with_reducible repeat (first|refine yE ?_ _|refine yF ?_|refine yG ?_ _));refine blk_put (cs:=#[.int .u8 48,.slice none 0 0]) ?_ 1 _ rfl;(with_reducible repeat (first|refine yE ?_ _|refine yF ?_|refine yG ?_ _));refine blk_put (cs:=#[.int .u8 0,.slice none 0 0]) ?_ 0 _ rfl;(with_reducible repeat (first|refine yE ?_ _|refine yF ?_|refine yG ?_ _));exact BK161.out) hb);have n4_:=Aside0.mk (yP (by repeat (first|(with_reducible first|exact HB.out|apply yA|apply yB|apply yC|refine yD ?_ GE157.out|refine yD ?_ GE161.out)|exact HB.out)) hb);clear HO160;clear BK157;clear BK161;clear HB;have HO160:=n0_;have HO165:=n1_;have BK157:=n2_;have BK161:=n3_;have HB:=n4_;clear n0_ n1_ n2_ n3_ n4_;(try clear hb);(try clear hb2);(try clear hk);(try clear hi);(try clear ho0))|((with_reducible refine gate_dst (N:=5) rfl ?_);(try (refine gate_guard (by rfl) ?_;dsimp only));refine box_event ?hg (N:=5) ?hd (cs:=#[.int .u8 0,.slice none 0 0]) (t:=44) ?hr ?_;(case hd=>rfl);(case hg=>rfl);(case hr=>first|(go_simp;done)|(go_simp;rfl));intro gb167 hg w51 hbox hb;have n0_:=Aside0.mk (Kd.R_below (Kd.R_elderB (by (with_reducible repeat (first|apply yH|apply yI|apply yJ));exact HO160.out) gb167 (Nat.le_of_eq hg.symm)) hb);have n1_:=Aside0.mk (Kd.R_below (Kd.R_elderB (by (with_reducible repeat (first|apply yH|apply yI|apply yJ));exact HO165.out) gb167 (Nat.le_of_eq hg.symm)) hb);have n2_:=Aside0.mk (blk_below (g:=gb157) (o:=.cells #[.int .u8 0,.slice none 0 0] 44 (0,0)) (by (with_reducible repeat (first|refine yE ?_ _|refine yF ?_|refine yG ?_ _));exact BK157.out) hb);have n3_:=Aside0.mk (blk_below (g:=gb161) (o:=.cells #[.int .u8 48,.slice Ao46 y158.length co46] 44 (0,0)) (by (with_reducible repeat (first|refine yE ?_ _|refine yF ?_|refine yG ?_ _));exact BK161.out) hb);have n4_:=Aside0.mk (yP (by repeat (first|(with_reducible first|exact HB.out|apply yA|apply yB|apply yC|refine yD ?_ GE157.out|refine yD ?_ GE161.out)|exact HB.out)) hb);have n5_:=Aside0.mk (hbox);have n6_:=Aside0.mk ((by rw [hg];exact (yQ (by repeat (first|(with_reducible first|exact HB.out|apply yA|apply yB|apply yC|refine yD ?_ GE157.out|refine yD ?_ GE161.out)|exact HB.out))):w.heap.size≤gb167));have n7_:=Aside0.mk ((by rw [hg];exact (yQ (by repeat (first|(with_reducible first|exact HB.out|apply yA|apply yB|apply yC|refine yD ?_ GE157.out|refine yD ?_ GE161.out)|exact HB.out))):w.heap.size≤gb167));have n8_:=Aside0.mk ((by rw [hg];exact Nat.ne_of_lt (blk_lt (g:=gb157) (o:=.cells #[.int .u8 0,.slice none 0 0] 44 (0,0)) (by (with_reducible repeat (first|refine yE ?_ _|refine yF ?_|refine yG ?_ _));exact BK157.out)):gb157≠gb167));have n9_:=Aside0.mk ((by rw [hg];exact Nat.ne_of_gt (blk_lt (g:=gb157) (o:=.cells #[.int .u8 0,.slice none 0 0] 44 (0,0)) (by (with_reducible repeat (first|refine yE ?_ _|refine yF ?_|refine yG ?_ _));exact BK157.out)):gb167≠gb157));have n10_:=Aside0.mk ((by rw [hg];exact Nat.ne_of_lt (blk_lt (g:=gb161) (o:=.cells #[.int .u8 48,.slice Ao46 y158.length co46] 44 (0,0)) (by (with_reducible repeat (first|refine yE ?_ _|refine yF ?_|refine yG ?_ _));exact BK161.out)):gb161≠gb167));have n11_:=Aside0.mk ((by rw [hg];exact Nat.ne_of_gt (blk_lt (g:=gb161) (o:=.cells #[.int .u8 48,.slice Ao46 y158.length co46] 44 (0,0)) (by (with_reducible repeat (first|refine yE ?_ _|refine yF ?_|refine yG ?_ _));exact BK161.out)):gb167≠gb161));clear HO160;clear HO165;clear BK157;clear BK161;clear HB;have HO160:=n0_;have HO165:=n1_;have BK157:=n2_;have BK161:=n3_;have HB:=n4_;have BK167:=n5_;have GW167:=n6_;have GE167:=n7_;have NB157_167:=n8_;have NB167_157:=n9_;have NB161_167:=n10_;have NB167_161:=n11_;clear n0_ n1_ n2_ n3_ n4_ n5_ n6_ n7_ n8_ n9_ n10_ n11_;clear hb hbox hg;have hnb52:=NB167_157.out;have hnc52:=NB157_167.out;have hnb53:=NB167_161.out;have hnc53:=NB161_167.out;have hcz54_0:w51.cell? ⟨gb167,0,none⟩=some (.int .u8 0):=(blk_cell BK167.out 0).trans rfl;have hcz54_1:w51.cell? ⟨gb167,1,none⟩=some (.slice none 0 0):=(blk_cell BK167.out 1).trans rfl;have hfz54_0:=blk_frozen BK167.out 0;have hfz54_1:=blk_frozen BK167.out 1;obtain ⟨Ao55,co55,eo55⟩:=Kd.R_slice HO165.out;subst eo55;have hcz56_0:w51.cell? ⟨gb161,0,none⟩=some (.int .u8 48):=(blk_cell BK161.out 0).trans rfl;have hcz56_1:w51.cell? ⟨gb161,1,none⟩=some (.slice Ao46 y158.length co46):=(blk_cell BK161.out 1).trans rfl;have hfz56_0:=blk_frozen BK161.out 0;have hfz56_1:=blk_frozen BK161.out 1;have hcz57_0:w51.cell? ⟨gb157,0,none⟩=some (.int .u8 0):=(blk_cell BK157.out 0).trans rfl;have hcz57_1:w51.cell? ⟨gb157,1,none⟩=some (.slice none 0 0):=(blk_cell BK157.out 1).trans rfl;have hfz57_0:=blk_frozen BK157.out 0;have hfz57_1:=blk_frozen BK157.out 1))
    refine bodyPost_ret (results_ct rfl _ _ gb157 44 #[.int .u8 48,.slice Ao46 y158.length co46] (0,0) _ rfl (by (with_reducible repeat (first|refine yE ?_ _|refine yF ?_|refine yG ?_ _));refine blk_put (cs:=#[.int .u8 48,.slice none 0 0]) ?_ 1 _ rfl;(with_reducible repeat (first|refine yE ?_ _|refine yF ?_|refine yG ?_ _));refine blk_put (cs:=#[.int .u8 0,.slice none 0 0]) ?_ 0 _ rfl;(with_reducible repeat (first|refine yE ?_ _|refine yF ?_|refine yG ?_ _));refine blk_far ?_ NB157_167.out _;(with_reducible repeat (first|refine yE ?_ _|refine yF ?_|refine yG ?_ _));refine blk_far ?_ NB157_167.out _;(with_reducible repeat (first|refine yE ?_ _|refine yF ?_|refine yG ?_ _));exact BK157.out) Try.underlying44 rfl (by kernel_rfl)) rfl ?_
    exact ⟨_,by first|rfl|(simp [errW_none,errW_some]<;>rfl)|(simp [*,errW_none,errW_some]<;>rfl)|(simp [errW_none,errW_some];exact ⟨rfl,rfl⟩),by (with_reducible repeat (first|apply yH|apply yI|apply yJ));exact Kd.R_mono (Kd.R_far (p:=⟨gb157,1,none⟩) (Kd.R_far (p:=⟨gb157,0,none⟩) (Kd.R_far (p:=⟨gb167,1,none⟩) (Kd.R_far (p:=⟨gb167,0,none⟩) (Kd.R_mono (Kd.R_mono HO160.out (fun k_ hk=>(⟨hk,hk.2⟩:_∧k_≠gb167))) (fun k_ hk=>(⟨hk,hk.1.1.1.1.2⟩:_∧k_≠gb157))) (fun _ hk=>hk.1.2) (.int .u8 t162)) (fun _ hk=>hk.1.2) (.slice Ao55 t163.length co55)) (fun _ hk=>hk.2) (.int .u8 48)) (fun _ hk=>hk.2) (.slice Ao46 y158.length co46)) (fun _ hk=>trivial),by repeat (first|(with_reducible first|exact HB.out|apply yA|apply yB|apply yC|refine yD ?_ GE157.out|refine yD ?_ GE161.out|refine yD ?_ GE167.out)|exact HB.out)⟩

end Go.Proofs.Ytjjnckgdpdelkaa.P

namespace Go.Proofs.Ytjjnckgdpdelkaa.P
open Go.RowKit Go.Proofs.YtjjnckgdpdelkaaW.PrintWords Go.Proofs.YtjjnckgdpdelkaaW.PrintLast Go.Proofs.YtjjnckgdpdelkaaW.PrintMore
attribute [local go_sem] max2_int min2_int max_two min_two max_three min_three max_four min_four   -- for this text's walks alone
set_option linter.unusedVariables false
set_option linter.unusedSimpArgs false

/-! ### spec_TermTidy: function 23 -/
def spec_TermTidy.f (k:Nat) (a0:ByteArray):Option (ByteArray × Bool):=(spec_l7Of.f a0).bind fun bt371=>(if bt371.2.2=true then ((spec_l7Tidy.f k bt371.1 bt371.2.1).bind fun t377=>(some (t377,true))) else (some ((⟨#[]⟩:ByteArray),false)))
theorem spec_TermTidy.mono:∀ a0 k,LeO (spec_TermTidy.f k a0) (spec_TermTidy.f (k+1) a0):=by
 intro a0 k
 unfold spec_TermTidy.f
 repeat' first
   | (with_reducible exact spec_l7Tidy.mono _ _ _)
   | (with_reducible exact LeO.refl _)
   | (with_reducible exact LeO.none _)
   | (with_reducible refine LeO.ite ?_ ?_)
   | (with_reducible refine LeO.bind ?_ (fun _=>?_))
   | exact spec_l7Tidy.mono _ _ _
   | exact LeO.none _
   | refine LeO.ite ?_ ?_
   | refine LeO.bind ?_ (fun _=>?_)
set_option maxHeartbeats 8000000 in
set_option maxRecDepth 100000 in
theorem spec_TermTidy.calls (k:Nat) (a0:ByteArray) (r1:ByteArray) (r2:Bool) (w:World) (h:spec_TermTidy.f k a0=some (r1,r2)) :
  Calls Try.prog 23 #[.string a0] w fun e w'=>e=.returned (.tuple #[.string r1,.bool r2])∧Below w.heap.size w w':=by
 have hu44:=Try.underlying44
 have HB:=Aside0.mk (Below.refl w.heap.size w)
 have H:((spec_l7Of.f a0).bind fun bt371=>(if bt371.2.2=true then ((spec_l7Tidy.f k bt371.1 bt371.2.1).bind fun t377=>(some (t377,true))) else (some ((⟨#[]⟩:ByteArray),false))))=some (r1,r2):=h
 clear h
 replace H:=Option.bind_eq_some_iff.mp H
 obtain ⟨⟨t371,t372,t375⟩,A20,H⟩:=H
 replace H:(if t375=true then ((spec_l7Tidy.f k t371 t372).bind fun t377=>(some (t377,true))) else (some ((⟨#[]⟩:ByteArray),false)))=some (r1,r2):=H
 have A2:=Aside0.mk A20
 clear A20
 by_cases c3:t375=true
 ·subst c3
  have H1:((spec_l7Tidy.f k t371 t372).bind fun t377=>(some (t377,true)))=some (r1,r2):=by rw [if_pos rfl] at H;exact H
  clear H
  have H:=H1
  clear H1
  replace H:=Option.bind_eq_some_iff.mp H
  obtain ⟨t377,A40,H⟩:=H
  replace H:(some (t377,true))=some (r1,r2):=H
  have A4:=Aside0.mk A40
  clear A40
  simp only [Option.some.injEq,Prod.mk.injEq] at H
  obtain ⟨rfl,rfl⟩:=H
  go_enter Try.func23,Try.ntmps23
  go_wp2_with (first|((with_reducible refine gate_callee (f:=27) rfl ?_);refine goesL_ (some 8) rfl rfl Try.func27 (by kernel_rfl) rfl #[.string a0] rfl (by (try simp only [List.map_toArray,List.map_cons,List.map_nil]);first|done|rfl|(simp only [List.length_drop,List.length_take];rfl)) ?_;(with_reducible refine (spec_l7Of.calls a0 t371 t372 true _ A2.out).mono ?_);rintro e w5 ⟨v373,rfl,ho0,hb⟩;refine ⟨_,rfl,?_⟩;have n0_:=Aside0.mk (Kd.R_lower ho0 (yQ (by repeat (first|(with_reducible first|exact HB.out|apply yA|apply yB|apply yC)|exact HB.out))));have n1_:=Aside0.mk (yP (by repeat (first|(with_reducible first|exact HB.out|apply yA|apply yB|apply yC)|exact HB.out)) hb);clear HB;have HO374:=n0_;have HB:=n1_;clear n0_ n1_;(try clear hb);(try clear hb2);(try clear hk);(try clear hi);(try clear ho0))|((with_reducible refine gate_dst (N:=4) rfl ?_);refine box_event ?hg (N:=4) ?hd (cs:=#[.int .u8 0,.slice none 0 0]) (t:=44) ?hr ?_;(case hd=>rfl);(case hg=>rfl);(case hr=>first|(go_simp;done)|(go_simp;rfl));intro gb376 hg w6 hbox hb;have n0_:=Aside0.mk (Kd.R_below (Kd.R_elderB (by (with_reducible repeat (first|apply yH|apply yI|apply yJ));exact HO374.out) gb376 (Nat.le_of_eq hg.symm)) hb);have n1_:=Aside0.mk (yP (by repeat (first|(with_reducible first|exact HB.out|apply yA|apply yB|apply yC)|exact HB.out)) hb);have n2_:=Aside0.mk (hbox);have n3_:=Aside0.mk ((by rw [hg];exact (yQ (by repeat (first|(with_reducible first|exact HB.out|apply yA|apply yB|apply yC)|exact HB.out))):w.heap.size≤gb376));have n4_:=Aside0.mk ((by rw [hg];exact (yQ (by repeat (first|(with_reducible first|exact HB.out|apply yA|apply yB|apply yC)|exact HB.out))):w.heap.size≤gb376));clear HO374;clear HB;have HO374:=n0_;have HB:=n1_;have BK376:=n2_;have GW376:=n3_;have GE376:=n4_;clear n0_ n1_ n2_ n3_ n4_;clear hb hbox hg;have hcz7_0:w6.cell? ⟨gb376,0,none⟩=some (.int .u8 0):=(blk_cell BK376.out 0).trans rfl;have hcz7_1:w6.cell? ⟨gb376,1,none⟩=some (.slice none 0 0):=(blk_cell BK376.out 1).trans rfl;have hfz7_0:=blk_frozen BK376.out 0;have hfz7_1:=blk_frozen BK376.out 1;obtain ⟨Ao8,co8,eo8⟩:=Kd.R_slice HO374.out;subst eo8)|((with_reducible refine gate_callee (f:=36) rfl ?_);refine goesL_ (some 14) rfl rfl Try.func36 (by kernel_rfl) rfl #[.agg #[.int .u8 t371,.slice Ao8 t372.length co8]] rfl (by (try simp only [List.map_toArray,List.map_cons,List.map_nil]);first|done|rfl|(simp only [List.length_drop,List.length_take];rfl)) ?_;(with_reducible refine (spec_l7Tidy.calls k t371 _ _ t372 t377 _ ?side1 ?side2 A4.out).mono ?_);(case side1=>refine (Kd.R_reads' (e:=44) (base:=w.heap.size) (ok:=fun k_=>(True∧k_≠gb376)) (n:=t372.length) (c:=co8) ?_).2.2;exact (by (with_reducible repeat (first|apply yH|apply yI|apply yJ));exact (Kd.R_mono (Kd.R_far (p:=⟨gb376,1,none⟩) (Kd.R_far (p:=⟨gb376,0,none⟩) (Kd.R_mono HO374.out (fun k_ hk=>(⟨hk,hk.2⟩:_∧k_≠gb376))) (fun _ hk=>hk.2) (.int .u8 t371)) (fun _ hk=>hk.2) (.slice Ao8 t372.length co8)) (fun _ h_=>h_.1))));(case side2=>exact (Kd.R_reads' HO374.out).2.1);rintro e w9 ⟨rfl,hb⟩;refine ⟨_,rfl,?_⟩;have n0_:=Aside0.mk (Kd.R_below (by (with_reducible repeat (first|apply yH|apply yI|apply yJ));exact (Kd.R_mono (Kd.R_far (p:=⟨gb376,1,none⟩) (Kd.R_far (p:=⟨gb376,0,none⟩) (Kd.R_mono HO374.out (fun k_ hk=>(⟨hk,hk.2⟩:_∧k_≠gb376))) (fun _ hk=>hk.2) (.int .u8 t371)) (fun _ hk=>hk.2) (.slice Ao8 t372.length co8)) (fun _ h_=>h_.1))) hb);have n1_:=Aside0.mk (blk_below (g:=gb376) (o:=.cells #[.int .u8 t371,.slice Ao8 t372.length co8] 44 (0,0)) (by (with_reducible repeat (first|refine yE ?_ _|refine yF ?_|refine yG ?_ _));refine blk_put (cs:=#[.int .u8 t371,.slice none 0 0]) ?_ 1 _ rfl;(with_reducible repeat (first|refine yE ?_ _|refine yF ?_|refine yG ?_ _));refine blk_put (cs:=#[.int .u8 0,.slice none 0 0]) ?_ 0 _ rfl;(with_reducible repeat (first|refine yE ?_ _|refine yF ?_|refine yG ?_ _));exact BK376.out) hb);have n2_:=Aside0.mk (yP (by repeat (first|(with_reducible first|exact HB.out|apply yA|apply yB|apply yC|refine yD ?_ GE376.out)|exact HB.out)) hb);clear HO374;clear BK376;clear HB;have HO374:=n0_;have BK376:=n1_;have HB:=n2_;clear n0_ n1_ n2_;(try clear hb);(try clear hb2);(try clear hk);(try clear hi)))
  go_ret2
  exact ⟨by first|rfl|(simp [errW_none,errW_some]<;>rfl)|(simp [*,errW_none,errW_some]<;>rfl)|(simp [errW_none,errW_some];exact ⟨rfl,rfl⟩),by repeat (first|(with_reducible first|exact HB.out|apply yA|apply yB|apply yC|refine yD ?_ GE376.out)|exact HB.out)⟩
 ·replace c3:=Bool.eq_false_iff.mpr c3
  subst c3
  have H1:(some ((⟨#[]⟩:ByteArray),false))=some (r1,r2):=by rw [if_neg (show ¬ (false=true) by decide)] at H;exact H
  clear H
  have H:=H1
  clear H1
  simp only [Option.some.injEq,Prod.mk.injEq] at H
  obtain ⟨rfl,rfl⟩:=H
  go_enter Try.func23,Try.ntmps23
  go_wp2_with (first|((with_reducible refine gate_callee (f:=27) rfl ?_);refine goesL_ (some 8) rfl rfl Try.func27 (by kernel_rfl) rfl #[.string a0] rfl (by (try simp only [List.map_toArray,List.map_cons,List.map_nil]);first|done|rfl|(simp only [List.length_drop,List.length_take];rfl)) ?_;(with_reducible refine (spec_l7Of.calls a0 t371 t372 false _ A2.out).mono ?_);rintro e w10 ⟨v373,rfl,ho0,hb⟩;refine ⟨_,rfl,?_⟩;have n0_:=Aside0.mk (Kd.R_lower ho0 (yQ (by repeat (first|(with_reducible first|exact HB.out|apply yA|apply yB|apply yC)|exact HB.out))));have n1_:=Aside0.mk (yP (by repeat (first|(with_reducible first|exact HB.out|apply yA|apply yB|apply yC)|exact HB.out)) hb);clear HB;have HO374:=n0_;have HB:=n1_;clear n0_ n1_;(try clear hb);(try clear hb2);(try clear hk);(try clear hi);(try clear ho0))|((with_reducible refine gate_dst (N:=4) rfl ?_);refine box_event ?hg (N:=4) ?hd (cs:=#[.int .u8 0,.slice none 0 0]) (t:=44) ?hr ?_;(case hd=>rfl);(case hg=>rfl);(case hr=>first|(go_simp;done)|(go_simp;rfl));intro gb376 hg w11 hbox hb;have n0_:=Aside0.mk (Kd.R_below (Kd.R_elderB (by (with_reducible repeat (first|apply yH|apply yI|apply yJ));exact HO374.out) gb376 (Nat.le_of_eq hg.symm)) hb);have n1_:=Aside0.mk (yP (by repeat (first|(with_reducible first|exact HB.out|apply yA|apply yB|apply yC)|exact HB.out)) hb);have n2_:=Aside0.mk (hbox);have n3_:=Aside0.mk ((by rw [hg];exact (yQ (by repeat (first|(with_reducible first|exact HB.out|apply yA|apply yB|apply yC)|exact HB.out))):w.heap.size≤gb376));have n4_:=Aside0.mk ((by rw [hg];exact (yQ (by repeat (first|(with_reducible first|exact HB.out|apply yA|apply yB|apply yC)|exact HB.out))):w.heap.size≤gb376));clear HO374;clear HB;have HO374:=n0_;have HB:=n1_;have BK376:=n2_;have GW376:=n3_;have GE376:=n4_;clear n0_ n1_ n2_ n3_ n4_;clear hb hbox hg;have hcz12_0:w11.cell? ⟨gb376,0,none⟩=some (.int .u8 0):=(blk_cell BK376.out 0).trans rfl;have hcz12_1:w11.cell? ⟨gb376,1,none⟩=some (.slice none 0 0):=(blk_cell BK376.out 1).trans rfl;have hfz12_0:=blk_frozen BK376.out 0;have hfz12_1:=blk_frozen BK376.out 1;obtain ⟨Ao13,co13,eo13⟩:=Kd.R_slice HO374.out;subst eo13))
  go_ret2
  exact ⟨by first|rfl|(simp [errW_none,errW_some]<;>rfl)|(simp [*,errW_none,errW_some]<;>rfl)|(simp [errW_none,errW_some];exact ⟨rfl,rfl⟩),by repeat (first|(with_reducible first|exact HB.out|apply yA|apply yB|apply yC|refine yD ?_ GE376.out)|exact HB.out)⟩

end Go.Proofs.Ytjjnckgdpdelkaa.P
