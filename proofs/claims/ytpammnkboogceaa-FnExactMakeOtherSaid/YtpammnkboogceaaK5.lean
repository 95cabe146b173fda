/- What these laws reach, joined by a program of this session: contracts (written by that program over the kit's print, or by hand) and plain lemmas. -/
import Derived.Test.YtpammnkboogceaaK1
import Derived.Test.YtpammnkboogceaaK2
import Derived.Test.YtpammnkboogceaaK3
-- impl.MakeOther: all other numbers.
namespace Go.Proofs.Ytpammnkboogceaa.P
open Go.RowKit Go.Proofs.YtpammnkboogceaaW.PrintWords Go.Proofs.YtpammnkboogceaaW.PrintLast Go.Proofs.YtpammnkboogceaaW.PrintMore
set_option linter.unusedVariables false
set_option linter.unusedSimpArgs false

/-- What impl.MakeOther answers. -/
noncomputable def oth (s : List UInt8) : ByteArray × Bool := if (parse s).isSome then txt (cn (fun n => !setf s n)) else (⟨#[]⟩, false)
noncomputable def impl_MakeOther.f (s : ByteArray) : Option (ByteArray × Bool) := if s.size ≤ 70368744177664 then some (oth (chrs s)) else none

set_option maxHeartbeats 8000000 in
set_option maxRecDepth 100000 in
theorem other_q_calls (t r : List Bool) (hr : r ≠ []) (hl : t.length ≤ 60 ∧ r.length ≤ 60) (A0 : Option Addr) (c0 : Nat) (A1 : Option Addr) (c1 n : Nat) (hn : n ≤ 1000000) (W : World)
    (hC0 : Kd.C Kd.bool W A0 t.length t) (h0 : t.length ≤ c0) (hC1 : Kd.C Kd.bool W A1 r.length r) (h1 : r.length ≤ c1) :
    Calls Try.prog 35 #[.agg #[.slice A0 t.length c0, .slice A1 r.length c1], .int .i64 n] W fun e w' => e = .returned (.bool (!hasB t r n)) ∧ Below W.heap.size W w' := by
  have HC := fun (o : Obj) => Aside0.mk (impl_set_has.calls A0 c0 t A1 c1 r (n : Int) (hasB t r n) (W.alloc o) (Kd.C_alloc hC0 o) h0 (Kd.C_alloc hC1 o) h1 (ihas_f t r hr (by omega) n (by omega)))
  have HC2 := Aside0.mk (impl_set_has.calls A0 c0 t A1 c1 r (n : Int) (hasB t r n) W hC0 h0 hC1 h1 (ihas_f t r hr (by omega) n (by omega)))
  have hu := Try.underlying44
  clear hC0 hC1 h0 h1 hl hr
  go_enter Try.func35, Try.ntmps35
  go_wp2_with (go_at_call 31; first | (refine (HC _).out.mono ?_; rintro e w' ⟨rfl, hb⟩) | (refine HC2.out.mono ?_; rintro e w' ⟨rfl, hb⟩))
  go_ret
  exact ⟨rfl, by first | exact below_step (below_alloc (Below.refl _ _) _) hb | exact hb⟩

set_option maxHeartbeats 8000000 in
set_option maxRecDepth 100000 in
theorem impl_MakeOther.calls (a0 : ByteArray) (r1 : ByteArray) (r2 : Bool) (w : World) (h : impl_MakeOther.f a0 = some (r1, r2)) :
    Calls Try.prog 16 #[.string a0] w fun e w' => e = .returned (.tuple #[.string r1, .bool r2]) ∧ Below w.heap.size w w' := by
  unfold impl_MakeOther.f at h
  split at h
  · rename_i hs
    simp only [Option.some.injEq] at h
    have eg : ∀ args w, (callFunc 35 args).run Try.prog w = .ok (.enter 35 args) w := enters_of Try.func35 (by kernel_rfl) rfl
    have hx : ∀ w1 : World, Calls Try.prog 28 #[.string a0, .bool true, .func (.func 35) #[] #[]] w1 fun e w' => e = .returned (.tuple #[.string r1, .bool r2]) ∧ Below w1.heap.size w1 w' := by
      intro w1
      have := single_calls a0 hs true 35 #[] (fun n => !setf (chrs a0) n) w1 eg
        (fun _ t r hp n hn => by show (!setf (chrs a0) (n + r.length)) = !setf (chrs a0) n; rw [setf_some hp, hasB_per t r n hn])
        (fun hm t r hp W A0 c0 A1 c1 n hW hC0 h0 hC1 h1 hn => by
          have hb := parse_some hp
          rw [setf_some hp]
          exact other_q_calls t r hb.2.2 ⟨hb.1, hb.2.1⟩ A0 c0 A1 c1 n (by omega) W hC0 h0 hC1 h1)
      rw [Bool.and_true] at this
      unfold oth at h
      rw [h] at this
      exact this
    have HX := Aside0.mk hx
    clear hx h hs eg
    go_enter Try.func16, Try.ntmps16
    go_wp2_with (go_at_call 28; refine (HX.out _).mono ?_; rintro e w2 ⟨rfl, hb2⟩)
    go_ret2
    exact ⟨rfl, hb2⟩
  · cases h
end Go.Proofs.Ytpammnkboogceaa.P

namespace Go.Proofs.Ytpammnkboogceaa.P
open Go.RowKit Go.Proofs.YtpammnkboogceaaW.PrintWords Go.Proofs.YtpammnkboogceaaW.PrintLast Go.Proofs.YtpammnkboogceaaW.PrintMore
attribute [local go_sem] max2_int min2_int max_two min_two max_three min_three max_four min_four   -- for this text's walks alone
set_option linter.unusedVariables false
set_option linter.unusedSimpArgs false

/-! ### spec_l1Divisor: function 62 -/
def spec_l1Divisor.l0 : Nat → Int → Int → Option (Int)
  | 0, _, _ => none
  | k + 1, x0, x1 => if x1 > 0 then (if x1 = 0 then (none) else (spec_l1Divisor.l0 k x1 (Int.tmod x0 x1))) else (some x0)
def spec_l1Divisor.f (k : Nat) (a0 : Int) (a1 : Int) : Option (Int) := spec_l1Divisor.l0 k a0 a1
theorem spec_l1Divisor.mono_l : ∀ k, (∀ y0 y1, LeO (spec_l1Divisor.l0 k y0 y1) (spec_l1Divisor.l0 (k + 1) y0 y1))
  | 0 => fun _ _ r h => by simp [spec_l1Divisor.l0] at h
  | k + 1 => by
    have ih0 := spec_l1Divisor.mono_l k
    · intro y0 y1
      unfold spec_l1Divisor.l0
      repeat' first
      | (with_reducible exact ih0 _ _)
      | (with_reducible exact LeO.refl _)
      | (with_reducible exact LeO.none _)
      | (with_reducible refine LeO.ite ?_ ?_)
      | (with_reducible refine LeO.bind ?_ (fun _ => ?_))
      | exact ih0 _ _
      | exact LeO.none _
      | refine LeO.ite ?_ ?_
      | refine LeO.bind ?_ (fun _ => ?_)
theorem spec_l1Divisor.mono : ∀ a0 a1 k, LeO (spec_l1Divisor.f k a0 a1) (spec_l1Divisor.f (k + 1) a0 a1) := by
  intro a0 a1 k
  have ih0 := spec_l1Divisor.mono_l k
  unfold spec_l1Divisor.f
  repeat' first
      | (with_reducible exact ih0 _ _)
      | (with_reducible exact LeO.refl _)
      | (with_reducible exact LeO.none _)
      | (with_reducible refine LeO.ite ?_ ?_)
      | (with_reducible refine LeO.bind ?_ (fun _ => ?_))
      | exact ih0 _ _
      | exact LeO.none _
      | refine LeO.ite ?_ ?_
      | refine LeO.bind ?_ (fun _ => ?_)
set_option maxHeartbeats 8000000 in
set_option maxRecDepth 100000 in
theorem spec_l1Divisor.calls (k : Nat) (a0 : Int) (a1 : Int) (r : Int) (w : World) (h : spec_l1Divisor.f k a0 a1 = some r) :
    Calls Try.prog 62 #[.int .i64 a0, .int .i64 a1] w fun e w' => e = .returned (.int .i64 r) ∧ Drawn0 w w' := by
  have H : (spec_l1Divisor.l0 k a0 a1) = some r := h
  clear h
  have H' := Aside0.mk H
  clear H
  go_enter Try.func62, Try.ntmps62
  go_wp2
  go_loopg [0, 1] k (fun kq v0 v1 w' => ∃ (x0_1 : Int) (x1_1 : Int), v0 = .int .i64 x0_1 ∧ v1 = .int .i64 x1_1 ∧ Aside0 (spec_l1Divisor.l0 kq x0_1 x1_1 = some r) ∧ Aside0 (kq ≤ k) ∧ Drawn0 w w')
  case atStart => exact ⟨(a0), (a1), (by first | rfl | (simp; done) | (simp [*]; done) | (simp [Int.tmod_eq_emod_of_nonneg]; done)), (by first | rfl | (simp; done) | (simp [*]; done) | (simp [Int.tmod_eq_emod_of_nonneg]; done)), H', ⟨Nat.le_refl _⟩, by repeat (first | exact Drawn0.refl _ | apply Drawn0.step)⟩
  case round =>
    clear H'
    try clear p2
    obtain ⟨x0_1, x1_1, rfl, rfl, HA, HK1, ⟨m1, rfl⟩⟩ := hrel
    cases gk with
    | zero => exact absurd HA.out (by simp [spec_l1Divisor.l0])
    | succ k1 =>
      have H := HA.out
      clear HA
      simp only [spec_l1Divisor.l0] at H
      by_cases c3 : x1_1 > 0
      · rw [if_pos c3] at H
        have c3b0 : decide (0 < x1_1) = true := decide_eq_true c3
        clear c3
        by_cases c4 : x1_1 = 0
        · rw [if_pos c4] at H
          exact absurd H (by simp)
        · rw [if_neg c4] at H
          have c4b0 : (x1_1 == 0) = false := beq_eq_false_iff_ne.mpr c4
          have c4b1 : (x1_1 != 0) = true := bne_iff_ne.mpr c4
          have H' := Aside0.mk H
          clear H
          go_wp2
          go_roundg k1
          case measure => have := HK1.out; omega
          case rel => exact ⟨(x1_1), (Int.tmod x0_1 x1_1), (by first | rfl | (simp; done) | (simp [*]; done) | (simp [Int.tmod_eq_emod_of_nonneg]; done)), (by first | rfl | (simp; done) | (simp [*]; done) | (simp [Int.tmod_eq_emod_of_nonneg]; done)), H', ⟨by have := HK1.out; omega⟩, by repeat (first | exact Drawn0.refl _ | apply Drawn0.step)⟩
      · rw [if_neg c3] at H
        have c3b0 : decide (0 < x1_1) = false := decide_eq_false c3
        clear c3
        obtain rfl := Option.some.inj H
        go_wp2
        go_ret
        exact ⟨by first | rfl | (simp; done) | (simp [*]; done), by repeat (first | exact Drawn0.refl _ | apply Drawn0.step)⟩

end Go.Proofs.Ytpammnkboogceaa.P

namespace Go.Proofs.Ytpammnkboogceaa.P
open Go.RowKit Go.Proofs.YtpammnkboogceaaW.PrintWords Go.Proofs.YtpammnkboogceaaW.PrintLast Go.Proofs.YtpammnkboogceaaW.PrintMore
attribute [local go_sem] max2_int min2_int max_two min_two max_three min_three max_four min_four   -- for this text's walks alone
set_option linter.unusedVariables false
set_option linter.unusedSimpArgs false

/-! ### spec_l1Shape: function 52 -/
def spec_l1Shape.f (k : Nat) (l0_0 : List Bool) (l0_1 : List Bool) (l1_0 : List Bool) (l1_1 : List Bool) : Option (Int × Int) := (spec_l1Divisor.f k (l0_1.length : Int) (l1_1.length : Int)).bind fun t337 => (if t337 = 0 then (none) else (some (mx (l0_0.length : Int) (l1_0.length : Int), wrap64 ((wrap64 ((l0_1.length : Int) / t337)) * (l1_1.length : Int)))))
theorem spec_l1Shape.mono : ∀ a0 a1 a2 a3 k, LeO (spec_l1Shape.f k a0 a1 a2 a3) (spec_l1Shape.f (k + 1) a0 a1 a2 a3) := by
  intro a0 a1 a2 a3 k
  unfold spec_l1Shape.f
  repeat' first
      | (with_reducible exact spec_l1Divisor.mono _ _ _)
      | (with_reducible exact LeO.refl _)
      | (with_reducible exact LeO.none _)
      | (with_reducible refine LeO.ite ?_ ?_)
      | (with_reducible refine LeO.bind ?_ (fun _ => ?_))
      | exact spec_l1Divisor.mono _ _ _
      | exact LeO.none _
      | refine LeO.ite ?_ ?_
      | refine LeO.bind ?_ (fun _ => ?_)
set_option maxHeartbeats 8000000 in
set_option maxRecDepth 100000 in
theorem spec_l1Shape.calls (k : Nat) (A0_0 : Option Addr) (c0_0 : Nat) (l0_0 : List Bool) (A0_1 : Option Addr) (c0_1 : Nat) (l0_1 : List Bool) (A1_0 : Option Addr) (c1_0 : Nat) (l1_0 : List Bool) (A1_1 : Option Addr) (c1_1 : Nat) (l1_1 : List Bool) (r1 : Int) (r2 : Int) (w : World) (hr0_0 : Kd.C Kd.bool w A0_0 l0_0.length l0_0) (hc0_0 : l0_0.length ≤ c0_0) (hr0_1 : Kd.C Kd.bool w A0_1 l0_1.length l0_1) (hc0_1 : l0_1.length ≤ c0_1) (hr1_0 : Kd.C Kd.bool w A1_0 l1_0.length l1_0) (hc1_0 : l1_0.length ≤ c1_0) (hr1_1 : Kd.C Kd.bool w A1_1 l1_1.length l1_1) (hc1_1 : l1_1.length ≤ c1_1) (h : spec_l1Shape.f k l0_0 l0_1 l1_0 l1_1 = some (r1, r2)) :
    Calls Try.prog 52 #[.agg #[.slice A0_0 l0_0.length c0_0, .slice A0_1 l0_1.length c0_1], .agg #[.slice A1_0 l1_0.length c1_0, .slice A1_1 l1_1.length c1_1]] w fun e w' => e = .returned (.tuple #[.int .i64 r1, .int .i64 r2]) ∧ Below w.heap.size w w' := by
  have hu36 := Try.underlying36
  have HR0_0 := Aside0.mk hr0_0
  have HC0_0 := Aside0.mk hc0_0
  clear hr0_0 hc0_0
  have HR0_1 := Aside0.mk hr0_1
  have HC0_1 := Aside0.mk hc0_1
  clear hr0_1 hc0_1
  have HR1_0 := Aside0.mk hr1_0
  have HC1_0 := Aside0.mk hc1_0
  clear hr1_0 hc1_0
  have HR1_1 := Aside0.mk hr1_1
  have HC1_1 := Aside0.mk hc1_1
  clear hr1_1 hc1_1
  have HB := Aside0.mk (Below.refl w.heap.size w)
  have H : ((spec_l1Divisor.f k (l0_1.length : Int) (l1_1.length : Int)).bind fun t337 => (if t337 = 0 then (none) else (some (mx (l0_0.length : Int) (l1_0.length : Int), wrap64 ((wrap64 ((l0_1.length : Int) / t337)) * (l1_1.length : Int)))))) = some (r1, r2) := h
  clear h
  replace H := Option.bind_eq_some_iff.mp H
  obtain ⟨t337, A30, H⟩ := H
  replace H : (if t337 = 0 then (none) else (some (mx (l0_0.length : Int) (l1_0.length : Int), wrap64 ((wrap64 ((l0_1.length : Int) / t337)) * (l1_1.length : Int))))) = some (r1, r2) := H
  have A3 := Aside0.mk A30
  clear A30
  by_cases c4 : t337 = 0
  · rw [if_pos c4] at H
    exact absurd H (by simp)
  · rw [if_neg c4] at H
    have c4b0 : (t337 == 0) = false := beq_eq_false_iff_ne.mpr c4
    have c4b1 : (t337 != 0) = true := bne_iff_ne.mpr c4
    obtain ⟨ji5, hji5⟩ : ∃ j_ : Int, (mx (l0_0.length : Int) (l1_0.length : Int)) = j_ := ⟨_, rfl⟩
    replace H : (some (ji5, wrap64 ((wrap64 ((l0_1.length : Int) / t337)) * (l1_1.length : Int)))) = some (r1, r2) := by first | (rw [hji5] at H; exact H) | (simp only [hji5] at H ⊢; exact H)
    (try rw [hji5] at A3)
    (try (have hji5l : 0 ≤ ji5 := by (rw [← hji5]; unfold mx; (repeat' split) <;> omega)))
    (try (have hji5m : 0 ≤ ji5 := by omega))
    have hji5_ : (if (l0_0.length : Int) < (l1_0.length : Int) then (l1_0.length : Int) else (l0_0.length : Int)) = ji5 := hji5
    simp only [Option.some.injEq, Prod.mk.injEq] at H
    obtain ⟨rfl, rfl⟩ := H
    go_enter Try.func52, Try.ntmps52
    go_wp2_with (first | ((with_reducible refine gate_dst (N := 2) rfl ?_); refine box_event ?hg (N := 2) ?hd (cs := #[.slice A0_0 l0_0.length c0_0, .slice A0_1 l0_1.length c0_1]) (t := 36) ?hr ?_; (case hd => rfl); (case hg => rfl); (case hr => first | (go_simp; done) | (go_simp; rfl)); intro gb335 hg w6 hbox hb; have n0_ := Aside0.mk (below_step (by repeat (first | (with_reducible first | exact HB.out | apply below_alloc | apply pw_below_drewN | apply below_drew1) | exact HB.out)) hb); have n1_ := Aside0.mk (hbox); have n2_ := Aside0.mk ((by rw [hg]; exact (below_size (by repeat (first | (with_reducible first | exact HB.out | apply below_alloc | apply pw_below_drewN | apply below_drew1) | exact HB.out))) : w.heap.size ≤ gb335)); have n3_ := Aside0.mk ((by rw [hg]; exact (below_size (by repeat (first | (with_reducible first | exact HB.out | apply below_alloc | apply pw_below_drewN | apply below_drew1) | exact HB.out))) : w.heap.size ≤ gb335)); clear HB; have HB := n0_; have BK335 := n1_; have GW335 := n2_; have GE335 := n3_; clear n0_ n1_ n2_ n3_; clear hb hbox hg) | ((with_reducible refine gate_dst (N := 3) rfl ?_); refine box_event ?hg (N := 3) ?hd (cs := #[.slice A1_0 l1_0.length c1_0, .slice A1_1 l1_1.length c1_1]) (t := 36) ?hr ?_; (case hd => rfl); (case hg => rfl); (case hr => first | (go_simp; done) | (go_simp; rfl)); intro gb336 hg w7 hbox hb; have n0_ := Aside0.mk (blk_below (g := gb335) (o := .cells #[.slice A0_0 l0_0.length c0_0, .slice A0_1 l0_1.length c0_1] 36 (0, 0)) (by (with_reducible repeat (first | refine blk_drewN ?_ _ | refine blk_drew ?_ | refine blk_alloc ?_ _)); exact BK335.out) hb); have n1_ := Aside0.mk (below_step (by repeat (first | (with_reducible first | exact HB.out | apply below_alloc | apply pw_below_drewN | apply below_drew1 | refine below_set ?_ GE335.out) | exact HB.out)) hb); have n2_ := Aside0.mk (hbox); have n3_ := Aside0.mk ((by rw [hg]; exact (below_size (by repeat (first | (with_reducible first | exact HB.out | apply below_alloc | apply pw_below_drewN | apply below_drew1 | refine below_set ?_ GE335.out) | exact HB.out))) : w.heap.size ≤ gb336)); have n4_ := Aside0.mk ((by rw [hg]; exact (below_size (by repeat (first | (with_reducible first | exact HB.out | apply below_alloc | apply pw_below_drewN | apply below_drew1 | refine below_set ?_ GE335.out) | exact HB.out))) : w.heap.size ≤ gb336)); have n5_ := Aside0.mk ((by rw [hg]; exact Nat.ne_of_lt (blk_lt (g := gb335) (o := .cells #[.slice A0_0 l0_0.length c0_0, .slice A0_1 l0_1.length c0_1] 36 (0, 0)) (by (with_reducible repeat (first | refine blk_drewN ?_ _ | refine blk_drew ?_ | refine blk_alloc ?_ _)); exact BK335.out)) : gb335 ≠ gb336)); have n6_ := Aside0.mk ((by rw [hg]; exact Nat.ne_of_gt (blk_lt (g := gb335) (o := .cells #[.slice A0_0 l0_0.length c0_0, .slice A0_1 l0_1.length c0_1] 36 (0, 0)) (by (with_reducible repeat (first | refine blk_drewN ?_ _ | refine blk_drew ?_ | refine blk_alloc ?_ _)); exact BK335.out)) : gb336 ≠ gb335)); clear BK335; clear HB; have BK335 := n0_; have HB := n1_; have BK336 := n2_; have GW336 := n3_; have GE336 := n4_; have NB335_336 := n5_; have NB336_335 := n6_; clear n0_ n1_ n2_ n3_ n4_ n5_ n6_; clear hb hbox hg; have hnb8 := NB335_336.out; have hnc8 := NB336_335.out; have hcz9_0 : w7.cell? ⟨gb335, 0, none⟩ = some (.slice A0_0 l0_0.length c0_0) := (blk_cell BK335.out 0).trans rfl; have hcz9_1 : w7.cell? ⟨gb335, 1, none⟩ = some (.slice A0_1 l0_1.length c0_1) := (blk_cell BK335.out 1).trans rfl; have hfz9_0 := blk_frozen BK335.out 0; have hfz9_1 := blk_frozen BK335.out 1; have hcz10_0 : w7.cell? ⟨gb336, 0, none⟩ = some (.slice A1_0 l1_0.length c1_0) := (blk_cell BK336.out 0).trans rfl; have hcz10_1 : w7.cell? ⟨gb336, 1, none⟩ = some (.slice A1_1 l1_1.length c1_1) := (blk_cell BK336.out 1).trans rfl; have hfz10_0 := blk_frozen BK336.out 0; have hfz10_1 := blk_frozen BK336.out 1) | (go_at_call 62; (with_reducible refine (spec_l1Divisor.calls k (l0_1.length : Int) (l1_1.length : Int) t337 _ A3.out).mono ?_); rintro e w' ⟨rfl, ⟨nd, rfl⟩⟩; (try first | exact ⟨rfl, _, World.drewN_drewN _ _ _⟩ | exact ⟨rfl, _, Eq.trans (World.drewN_drewN _ _ _) (congrArg (World.drewN _) (Nat.add_assoc _ _ _))⟩)))
    repeat (go_quiet (first | ((with_reducible refine gate_dst (N := 2) rfl ?_); refine box_event ?hg (N := 2) ?hd (cs := #[.slice A0_0 l0_0.length c0_0, .slice A0_1 l0_1.length c0_1]) (t := 36) ?hr ?_; (case hd => rfl); (case hg => rfl); (case hr => first | (go_simp; done) | (go_simp; rfl)); intro gb335 hg w6 hbox hb; have n0_ := Aside0.mk (below_step (by repeat (first | (with_reducible first | exact HB.out | apply below_alloc | apply pw_below_drewN | apply below_drew1) | exact HB.out)) hb); have n1_ := Aside0.mk (hbox); have n2_ := Aside0.mk ((by rw [hg]; exact (below_size (by repeat (first | (with_reducible first | exact HB.out | apply below_alloc | apply pw_below_drewN | apply below_drew1) | exact HB.out))) : w.heap.size ≤ gb335)); have n3_ := Aside0.mk ((by rw [hg]; exact (below_size (by repeat (first | (with_reducible first | exact HB.out | apply below_alloc | apply pw_below_drewN | apply below_drew1) | exact HB.out))) : w.heap.size ≤ gb335)); clear HB; have HB := n0_; have BK335 := n1_; have GW335 := n2_; have GE335 := n3_; clear n0_ n1_ n2_ n3_; clear hb hbox hg) | ((with_reducible refine gate_dst (N := 3) rfl ?_); refine box_event ?hg (N := 3) ?hd (cs := #[.slice A1_0 l1_0.length c1_0, .slice A1_1 l1_1.length c1_1]) (t := 36) ?hr ?_; (case hd => rfl); (case hg => rfl); (case hr => first | (go_simp; done) | (go_simp; rfl)); intro gb336 hg w7 hbox hb; have n0_ := Aside0.mk (blk_below (g := gb335) (o := .cells #[.slice A0_0 l0_0.length c0_0, .slice A0_1 l0_1.length c0_1] 36 (0, 0)) (by (with_reducible repeat (first | refine blk_drewN ?_ _ | refine blk_drew ?_ | refine blk_alloc ?_ _)); exact BK335.out) hb); have n1_ := Aside0.mk (below_step (by repeat (first | (with_reducible first | exact HB.out | apply below_alloc | apply pw_below_drewN | apply below_drew1 | refine below_set ?_ GE335.out) | exact HB.out)) hb); have n2_ := Aside0.mk (hbox); have n3_ := Aside0.mk ((by rw [hg]; exact (below_size (by repeat (first | (with_reducible first | exact HB.out | apply below_alloc | apply pw_below_drewN | apply below_drew1 | refine below_set ?_ GE335.out) | exact HB.out))) : w.heap.size ≤ gb336)); have n4_ := Aside0.mk ((by rw [hg]; exact (below_size (by repeat (first | (with_reducible first | exact HB.out | apply below_alloc | apply pw_below_drewN | apply below_drew1 | refine below_set ?_ GE335.out) | exact HB.out))) : w.heap.size ≤ gb336)); have n5_ := Aside0.mk ((by rw [hg]; exact Nat.ne_of_lt (blk_lt (g := gb335) (o := .cells #[.slice A0_0 l0_0.length c0_0, .slice A0_1 l0_1.length c0_1] 36 (0, 0)) (by (with_reducible repeat (first | refine blk_drewN ?_ _ | refine blk_drew ?_ | refine blk_alloc ?_ _)); exact BK335.out)) : gb335 ≠ gb336)); have n6_ := Aside0.mk ((by rw [hg]; exact Nat.ne_of_gt (blk_lt (g := gb335) (o := .cells #[.slice A0_0 l0_0.length c0_0, .slice A0_1 l0_1.length c0_1] 36 (0, 0)) (by (with_reducible repeat (first | refine blk_drewN ?_ _ | refine blk_drew ?_ | refine blk_alloc ?_ _)); exact BK335.out)) : gb336 ≠ gb335)); clear BK335; clear HB; have BK335 := n0_; have HB := n1_; have BK336 := n2_; have GW336 := n3_; have GE336 := n4_; have NB335_336 := n5_; have NB336_335 := n6_; clear n0_ n1_ n2_ n3_ n4_ n5_ n6_; clear hb hbox hg; have hnb8 := NB335_336.out; have hnc8 := NB336_335.out; have hcz9_0 : w7.cell? ⟨gb335, 0, none⟩ = some (.slice A0_0 l0_0.length c0_0) := (blk_cell BK335.out 0).trans rfl; have hcz9_1 : w7.cell? ⟨gb335, 1, none⟩ = some (.slice A0_1 l0_1.length c0_1) := (blk_cell BK335.out 1).trans rfl; have hfz9_0 := blk_frozen BK335.out 0; have hfz9_1 := blk_frozen BK335.out 1; have hcz10_0 : w7.cell? ⟨gb336, 0, none⟩ = some (.slice A1_0 l1_0.length c1_0) := (blk_cell BK336.out 0).trans rfl; have hcz10_1 : w7.cell? ⟨gb336, 1, none⟩ = some (.slice A1_1 l1_1.length c1_1) := (blk_cell BK336.out 1).trans rfl; have hfz10_0 := blk_frozen BK336.out 0; have hfz10_1 := blk_frozen BK336.out 1) | (go_at_call 62; (with_reducible refine (spec_l1Divisor.calls k (l0_1.length : Int) (l1_1.length : Int) t337 _ A3.out).mono ?_); rintro e w' ⟨rfl, ⟨nd, rfl⟩⟩; (try first | exact ⟨rfl, _, World.drewN_drewN _ _ _⟩ | exact ⟨rfl, _, Eq.trans (World.drewN_drewN _ _ _) (congrArg (World.drewN _) (Nat.add_assoc _ _ _))⟩))); try go_wp2_with (first | ((with_reducible refine gate_dst (N := 2) rfl ?_); refine box_event ?hg (N := 2) ?hd (cs := #[.slice A0_0 l0_0.length c0_0, .slice A0_1 l0_1.length c0_1]) (t := 36) ?hr ?_; (case hd => rfl); (case hg => rfl); (case hr => first | (go_simp; done) | (go_simp; rfl)); intro gb335 hg w6 hbox hb; have n0_ := Aside0.mk (below_step (by repeat (first | (with_reducible first | exact HB.out | apply below_alloc | apply pw_below_drewN | apply below_drew1) | exact HB.out)) hb); have n1_ := Aside0.mk (hbox); have n2_ := Aside0.mk ((by rw [hg]; exact (below_size (by repeat (first | (with_reducible first | exact HB.out | apply below_alloc | apply pw_below_drewN | apply below_drew1) | exact HB.out))) : w.heap.size ≤ gb335)); have n3_ := Aside0.mk ((by rw [hg]; exact (below_size (by repeat (first | (with_reducible first | exact HB.out | apply below_alloc | apply pw_below_drewN | apply below_drew1) | exact HB.out))) : w.heap.size ≤ gb335)); clear HB; have HB := n0_; have BK335 := n1_; have GW335 := n2_; have GE335 := n3_; clear n0_ n1_ n2_ n3_; clear hb hbox hg) | ((with_reducible refine gate_dst (N := 3) rfl ?_); refine box_event ?hg (N := 3) ?hd (cs := #[.slice A1_0 l1_0.length c1_0, .slice A1_1 l1_1.length c1_1]) (t := 36) ?hr ?_; (case hd => rfl); (case hg => rfl); (case hr => first | (go_simp; done) | (go_simp; rfl)); intro gb336 hg w7 hbox hb; have n0_ := Aside0.mk (blk_below (g := gb335) (o := .cells #[.slice A0_0 l0_0.length c0_0, .slice A0_1 l0_1.length c0_1] 36 (0, 0)) (by (with_reducible repeat (first | refine blk_drewN ?_ _ | refine blk_drew ?_ | refine blk_alloc ?_ _)); exact BK335.out) hb); have n1_ := Aside0.mk (below_step (by repeat (first | (with_reducible first | exact HB.out | apply below_alloc | apply pw_below_drewN | apply below_drew1 | refine below_set ?_ GE335.out) | exact HB.out)) hb); have n2_ := Aside0.mk (hbox); have n3_ := Aside0.mk ((by rw [hg]; exact (below_size (by repeat (first | (with_reducible first | exact HB.out | apply below_alloc | apply pw_below_drewN | apply below_drew1 | refine below_set ?_ GE335.out) | exact HB.out))) : w.heap.size ≤ gb336)); have n4_ := Aside0.mk ((by rw [hg]; exact (below_size (by repeat (first | (with_reducible first | exact HB.out | apply below_alloc | apply pw_below_drewN | apply below_drew1 | refine below_set ?_ GE335.out) | exact HB.out))) : w.heap.size ≤ gb336)); have n5_ := Aside0.mk ((by rw [hg]; exact Nat.ne_of_lt (blk_lt (g := gb335) (o := .cells #[.slice A0_0 l0_0.length c0_0, .slice A0_1 l0_1.length c0_1] 36 (0, 0)) (by (with_reducible repeat (first | refine blk_drewN ?_ _ | refine blk_drew ?_ | refine blk_alloc ?_ _)); exact BK335.out)) : gb335 ≠ gb336)); have n6_ := Aside0.mk ((by rw [hg]; exact Nat.ne_of_gt (blk_lt (g := gb335) (o := .cells #[.slice A0_0 l0_0.length c0_0, .slice A0_1 l0_1.length c0_1] 36 (0, 0)) (by (with_reducible repeat (first | refine blk_drewN ?_ _ | refine blk_drew ?_ | refine blk_alloc ?_ _)); exact BK335.out)) : gb336 ≠ gb335)); clear BK335; clear HB; have BK335 := n0_; have HB := n1_; have BK336 := n2_; have GW336 := n3_; have GE336 := n4_; have NB335_336 := n5_; have NB336_335 := n6_; clear n0_ n1_ n2_ n3_ n4_ n5_ n6_; clear hb hbox hg; have hnb8 := NB335_336.out; have hnc8 := NB336_335.out; have hcz9_0 : w7.cell? ⟨gb335, 0, none⟩ = some (.slice A0_0 l0_0.length c0_0) := (blk_cell BK335.out 0).trans rfl; have hcz9_1 : w7.cell? ⟨gb335, 1, none⟩ = some (.slice A0_1 l0_1.length c0_1) := (blk_cell BK335.out 1).trans rfl; have hfz9_0 := blk_frozen BK335.out 0; have hfz9_1 := blk_frozen BK335.out 1; have hcz10_0 : w7.cell? ⟨gb336, 0, none⟩ = some (.slice A1_0 l1_0.length c1_0) := (blk_cell BK336.out 0).trans rfl; have hcz10_1 : w7.cell? ⟨gb336, 1, none⟩ = some (.slice A1_1 l1_1.length c1_1) := (blk_cell BK336.out 1).trans rfl; have hfz10_0 := blk_frozen BK336.out 0; have hfz10_1 := blk_frozen BK336.out 1) | (go_at_call 62; (with_reducible refine (spec_l1Divisor.calls k (l0_1.length : Int) (l1_1.length : Int) t337 _ A3.out).mono ?_); rintro e w' ⟨rfl, ⟨nd, rfl⟩⟩; (try first | exact ⟨rfl, _, World.drewN_drewN _ _ _⟩ | exact ⟨rfl, _, Eq.trans (World.drewN_drewN _ _ _) (congrArg (World.drewN _) (Nat.add_assoc _ _ _))⟩))))
    all_goals go_ret2
    all_goals exact ⟨by first | (rw [← hji5_]; split <;> first | rfl | (exfalso; omega)) | rfl | (simp [errW_none, errW_some] <;> rfl) | (simp only [← hji5]; first | rfl | (simp [errW_none, errW_some] <;> rfl)) | (simp [*, errW_none, errW_some] <;> rfl), by repeat (first | (with_reducible first | exact HB.out | apply below_alloc | apply pw_below_drewN | apply below_drew1 | refine below_set ?_ GE335.out | refine below_set ?_ GE336.out) | exact HB.out)⟩

end Go.Proofs.Ytpammnkboogceaa.P

namespace Go.Proofs.Ytpammnkboogceaa.P
open Go.RowKit Go.Proofs.YtpammnkboogceaaW.PrintWords Go.Proofs.YtpammnkboogceaaW.PrintLast Go.Proofs.YtpammnkboogceaaW.PrintMore
attribute [local go_sem] max2_int min2_int max_two min_two max_three min_three max_four min_four   -- for this text's walks alone
set_option linter.unusedVariables false
set_option linter.unusedSimpArgs false

/-! ### spec_l2Two: function 34 -/
mutual
def spec_l2Two.j0 : Nat → Int → Bool → List Bool → List Bool → List Bool → List Bool → Option (ByteArray × Bool)
  | 0, _, _, _, _, _, _ => none
  | k + 1, x2, x32, x346000, x346001, x354000, x354001 => if x32 = true then (some ((⟨#[]⟩ : ByteArray), false)) else ((spec_l1Shape.f k x346000 x346001 x354000 x354001).bind fun bt354 => (spec_l2Two.l0 k x2 bt354.1 bt354.2 0 x346000 x346001 x354000 x354001 (([] : List Bool)) (([] : List Bool))))
def spec_l2Two.l0 : Nat → Int → Int → Int → Int → List Bool → List Bool → List Bool → List Bool → List Bool → List Bool → Option (ByteArray × Bool)
  | 0, _, _, _, _, _, _, _, _, _, _ => none
  | k + 1, x2, x12, x13, x15, x346000, x346001, x354000, x354001, x363000, x363001 => if x15 < (wrap64 (x12 + x13)) then ((spec_l1Has.f x346000 x346001 x15).bind fun t365 => ((spec_l1Bit.f t365).bind fun t366 => ((spec_l1Has.f x354000 x354001 x15).bind fun t367 => ((spec_l1Bit.f t367).bind fun t368 => (if 0 ≤ (wrap64 ((wrap64 (2 * t366)) + t368)) then (if x15 < x12 then (if x363000.length < 140737488355328 then (spec_l2Two.l0 k x2 x12 x13 (wrap64 (x15 + 1)) x346000 x346001 x354000 x354001 (x363000 ++ [((Go.bits .and .i64 (shr .i64 x2 (wrap64 ((wrap64 (2 * t366)) + t368))) 1) == 1)]) x363001) else (none)) else (if x363001.length < 140737488355328 then (spec_l2Two.l0 k x2 x12 x13 (wrap64 (x15 + 1)) x346000 x346001 x354000 x354001 x363000 (x363001 ++ [((Go.bits .and .i64 (shr .i64 x2 (wrap64 ((wrap64 (2 * t366)) + t368))) 1) == 1)])) else (none))) else (none)))))) else ((spec_l1Done.f k x363000 x363001).bind fun bt363 => (some (bt363.1, bt363.2)))
end
def spec_l2Two.f (k : Nat) (a0 : ByteArray) (a1 : ByteArray) (a2 : Int) : Option (ByteArray × Bool) := (spec_l1Read.f k a0).bind fun bt338 => ((spec_l1Read.f k a1).bind fun bt346 => (if bt338.2.2 = true then (spec_l2Two.j0 k a2 (!bt346.2.2) bt338.1 bt338.2.1 bt346.1 bt346.2.1) else (spec_l2Two.j0 k a2 true bt338.1 bt338.2.1 bt346.1 bt346.2.1)))
theorem spec_l2Two.mono_l : ∀ k, (∀ y0 y1 y2 y3 y4 y5, LeO (spec_l2Two.j0 k y0 y1 y2 y3 y4 y5) (spec_l2Two.j0 (k + 1) y0 y1 y2 y3 y4 y5)) ∧ (∀ y0 y1 y2 y3 y4 y5 y6 y7 y8 y9, LeO (spec_l2Two.l0 k y0 y1 y2 y3 y4 y5 y6 y7 y8 y9) (spec_l2Two.l0 (k + 1) y0 y1 y2 y3 y4 y5 y6 y7 y8 y9))
  | 0 => ⟨fun _ _ _ _ _ _ r h => by simp [spec_l2Two.j0] at h, fun _ _ _ _ _ _ _ _ _ _ r h => by simp [spec_l2Two.l0] at h⟩
  | k + 1 => by
    obtain ⟨ih0, ih1⟩ := spec_l2Two.mono_l k
    refine ⟨?_, ?_⟩
    · intro y0 y1 y2 y3 y4 y5
      unfold spec_l2Two.j0
      repeat' first
      | (with_reducible exact ih0 _ _ _ _ _ _)
      | (with_reducible exact ih1 _ _ _ _ _ _ _ _ _ _)
      | (with_reducible exact spec_l1Done.mono _ _ _)
      | (with_reducible exact spec_l1Read.mono _ _)
      | (with_reducible exact spec_l1Shape.mono _ _ _ _ _)
      | (with_reducible exact LeO.refl _)
      | (with_reducible exact LeO.none _)
      | (with_reducible refine LeO.ite ?_ ?_)
      | (with_reducible refine LeO.bind ?_ (fun _ => ?_))
      | exact ih0 _ _ _ _ _ _
      | exact ih1 _ _ _ _ _ _ _ _ _ _
      | exact spec_l1Done.mono _ _ _
      | exact spec_l1Read.mono _ _
      | exact spec_l1Shape.mono _ _ _ _ _
      | exact LeO.none _
      | refine LeO.ite ?_ ?_
      | refine LeO.bind ?_ (fun _ => ?_)
    · intro y0 y1 y2 y3 y4 y5 y6 y7 y8 y9
      unfold spec_l2Two.l0
      repeat' first
      | (with_reducible exact ih0 _ _ _ _ _ _)
      | (with_reducible exact ih1 _ _ _ _ _ _ _ _ _ _)
      | (with_reducible exact spec_l1Done.mono _ _ _)
      | (with_reducible exact spec_l1Read.mono _ _)
      | (with_reducible exact spec_l1Shape.mono _ _ _ _ _)
      | (with_reducible exact LeO.refl _)
      | (with_reducible exact LeO.none _)
      | (with_reducible refine LeO.ite ?_ ?_)
      | (with_reducible refine LeO.bind ?_ (fun _ => ?_))
      | exact ih0 _ _ _ _ _ _
      | exact ih1 _ _ _ _ _ _ _ _ _ _
      | exact spec_l1Done.mono _ _ _
      | exact spec_l1Read.mono _ _
      | exact spec_l1Shape.mono _ _ _ _ _
      | exact LeO.none _
      | refine LeO.ite ?_ ?_
      | refine LeO.bind ?_ (fun _ => ?_)
theorem spec_l2Two.mono : ∀ a0 a1 a2 k, LeO (spec_l2Two.f k a0 a1 a2) (spec_l2Two.f (k + 1) a0 a1 a2) := by
  intro a0 a1 a2 k
  obtain ⟨ih0, ih1⟩ := spec_l2Two.mono_l k
  unfold spec_l2Two.f
  repeat' first
      | (with_reducible exact ih0 _ _ _ _ _ _)
      | (with_reducible exact ih1 _ _ _ _ _ _ _ _ _ _)
      | (with_reducible exact spec_l1Done.mono _ _ _)
      | (with_reducible exact spec_l1Read.mono _ _)
      | (with_reducible exact spec_l1Shape.mono _ _ _ _ _)
      | (with_reducible exact LeO.refl _)
      | (with_reducible exact LeO.none _)
      | (with_reducible refine LeO.ite ?_ ?_)
      | (with_reducible refine LeO.bind ?_ (fun _ => ?_))
      | exact ih0 _ _ _ _ _ _
      | exact ih1 _ _ _ _ _ _ _ _ _ _
      | exact spec_l1Done.mono _ _ _
      | exact spec_l1Read.mono _ _
      | exact spec_l1Shape.mono _ _ _ _ _
      | exact LeO.none _
      | refine LeO.ite ?_ ?_
      | refine LeO.bind ?_ (fun _ => ?_)
def spec_l2Two.T10 : Bool × List (List Nat × List Nat) := (true, [([], []), ([], []), ([], []), ([1, 2], [1, 2]), ([3, 3], [3]), ([4], [4]), ([], []), ([], []), ([6, 7, 4], [6, 7]), ([8, 8], [8]), ([5, 9], [5, 9]), ([0, 10], [0, 10]), ([11], [11]), ([12], [12]), ([13, 9, 0, 1, 2, 3, 4, 5, 6, 7, 8, 9, 10, 11, 12, 13], [13])])
def spec_l2Two.B10 : List Nat := [0, 0, 0, 6, 14, 30, 0, 0, 222, 478, 1022, 2047, 4095, 8191, 16383]
theorem spec_l2Two.tab10 : rtab .any (opsOf Try.f34 10) = spec_l2Two.T10 := by kernel_rfl
theorem spec_l2Two.bits10 : waitsOk spec_l2Two.T10.2 spec_l2Two.B10 = true := by kernel_rfl
set_option maxHeartbeats 8000000 in
set_option maxRecDepth 100000 in
theorem spec_l2Two.calls (k : Nat) (a0 : ByteArray) (a1 : ByteArray) (a2 : Int) (r1 : ByteArray) (r2 : Bool) (w : World) (h : spec_l2Two.f k a0 a1 a2 = some (r1, r2)) :
    Calls Try.prog 34 #[.string a0, .string a1, .int .i64 a2] w fun e w' => e = .returned (.tuple #[.string r1, .bool r2]) ∧ Below w.heap.size w w' := by
  have hu36 := Try.underlying36
  have HB := Aside0.mk (Below.refl w.heap.size w)
  have H : ((spec_l1Read.f k a0).bind fun bt338 => ((spec_l1Read.f k a1).bind fun bt346 => (if bt338.2.2 = true then (spec_l2Two.j0 k a2 (!bt346.2.2) bt338.1 bt338.2.1 bt346.1 bt346.2.1) else (spec_l2Two.j0 k a2 true bt338.1 bt338.2.1 bt346.1 bt346.2.1)))) = some (r1, r2) := h
  clear h
  replace H := Option.bind_eq_some_iff.mp H
  obtain ⟨⟨t338, t341, t344⟩, A40, H⟩ := H
  replace H : ((spec_l1Read.f k a1).bind fun bt346 => (if t344 = true then (spec_l2Two.j0 k a2 (!bt346.2.2) t338 t341 bt346.1 bt346.2.1) else (spec_l2Two.j0 k a2 true t338 t341 bt346.1 bt346.2.1))) = some (r1, r2) := H
  have A4 := Aside0.mk A40
  clear A40
  replace H := Option.bind_eq_some_iff.mp H
  obtain ⟨⟨t346, t349, t352⟩, A50, H⟩ := H
  replace H : (if t344 = true then (spec_l2Two.j0 k a2 (!t352) t338 t341 t346 t349) else (spec_l2Two.j0 k a2 true t338 t341 t346 t349)) = some (r1, r2) := H
  have A5 := Aside0.mk A50
  clear A50
  have HC6 := Aside0.mk H
  clear H
  go_enter Try.func34, Try.ntmps34
  go_upto_region 3 with (first | ((with_reducible refine gate_callee (f := 24) rfl ?_); refine goesL_ (some 19) rfl rfl Try.func24 (by kernel_rfl) rfl #[.string a0] rfl (by (try simp only [List.map_toArray, List.map_cons, List.map_nil]); first | done | rfl | (simp only [List.length_drop, List.length_take]; rfl)) ?_; (with_reducible refine (spec_l1Read.calls k a0 t338 t341 t344 _ A4.out).mono ?_); rintro e w7 ⟨v339, v342, rfl, ho0, ho1, hb⟩; refine ⟨_, rfl, ?_⟩; have n0_ := Aside0.mk (Kd.R_lower ho0 (below_size (by repeat (first | (with_reducible first | exact HB.out | apply below_alloc | apply pw_below_drewN | apply below_drew1) | exact HB.out)))); have n1_ := Aside0.mk (Kd.R_lower ho1 (below_size (by repeat (first | (with_reducible first | exact HB.out | apply below_alloc | apply pw_below_drewN | apply below_drew1) | exact HB.out)))); have n2_ := Aside0.mk (below_step (by repeat (first | (with_reducible first | exact HB.out | apply below_alloc | apply pw_below_drewN | apply below_drew1) | exact HB.out)) hb); clear HB; have HO340 := n0_; have HO343 := n1_; have HB := n2_; clear n0_ n1_ n2_; (try clear hb); (try clear hb2); (try clear hk); (try clear hi); (try clear ho0); (try clear ho1)) | ((with_reducible refine gate_dst (N := 8) rfl ?_); refine box_event ?hg (N := 8) ?hd (cs := #[.slice none 0 0, .slice none 0 0]) (t := 36) ?hr ?_; (case hd => rfl); (case hg => rfl); (case hr => first | (go_simp; done) | (go_simp; rfl)); intro gb345 hg w8 hbox hb; have n0_ := Aside0.mk (Kd.R_below (by (with_reducible repeat (first | apply Kd.R_alloc | apply Kd.R_drewN | apply Kd.R_drew)); exact HO340.out) hb); have n1_ := Aside0.mk (Kd.R_below (by (with_reducible repeat (first | apply Kd.R_alloc | apply Kd.R_drewN | apply Kd.R_drew)); exact HO343.out) hb); have n2_ := Aside0.mk (below_step (by repeat (first | (with_reducible first | exact HB.out | apply below_alloc | apply pw_below_drewN | apply below_drew1) | exact HB.out)) hb); have n3_ := Aside0.mk (hbox); have n4_ := Aside0.mk ((by rw [hg]; exact (below_size (by repeat (first | (with_reducible first | exact HB.out | apply below_alloc | apply pw_below_drewN | apply below_drew1) | exact HB.out))) : w.heap.size ≤ gb345)); have n5_ := Aside0.mk ((by rw [hg]; exact (below_size (by repeat (first | (with_reducible first | exact HB.out | apply below_alloc | apply pw_below_drewN | apply below_drew1) | exact HB.out))) : w.heap.size ≤ gb345)); clear HO340; clear HO343; clear HB; have HO340 := n0_; have HO343 := n1_; have HB := n2_; have BK345 := n3_; have GW345 := n4_; have GE345 := n5_; clear n0_ n1_ n2_ n3_ n4_ n5_; clear hb hbox hg; obtain ⟨Ao9, co9, eo9⟩ := Kd.R_slice HO340.out; subst eo9; have hcz10_0 : w8.cell? ⟨gb345, 0, none⟩ = some (.slice none 0 0) := (blk_cell BK345.out 0).trans rfl; have hcz10_1 : w8.cell? ⟨gb345, 1, none⟩ = some (.slice none 0 0) := (blk_cell BK345.out 1).trans rfl; have hfz10_0 := blk_frozen BK345.out 0; have hfz10_1 := blk_frozen BK345.out 1; obtain ⟨Ao11, co11, eo11⟩ := Kd.R_slice HO343.out; subst eo11) | ((with_reducible refine gate_callee (f := 24) rfl ?_); refine goesL_ (some 24) rfl rfl Try.func24 (by kernel_rfl) rfl #[.string a1] rfl (by (try simp only [List.map_toArray, List.map_cons, List.map_nil]); first | done | rfl | (simp only [List.length_drop, List.length_take]; rfl)) ?_; (with_reducible refine (spec_l1Read.calls k a1 t346 t349 t352 _ A5.out).mono ?_); rintro e w12 ⟨v347, v350, rfl, ho0, ho1, hb⟩; refine ⟨_, rfl, ?_⟩; have n0_ := Aside0.mk (Kd.R_mono (Kd.R_told (Kd.R_told (Kd.R_old (by (with_reducible repeat (first | apply Kd.R_alloc | apply Kd.R_drewN | apply Kd.R_drew)); exact (Kd.R_mono (Kd.R_far (p := ⟨gb345, 1, none⟩) (Kd.R_far (p := ⟨gb345, 0, none⟩) (Kd.R_types HO340.out BK345.out (by decide)) (fun _ hk => hk.2) (.slice Ao9 t338.length co9)) (fun _ hk => hk.2) (.slice Ao11 t341.length co11)) (fun _ h_ => h_.1))) hb) (Kd.R_base ho0)) (Kd.R_base ho1)) (fun _ h_ => h_.1)); have n1_ := Aside0.mk (Kd.R_mono (Kd.R_told (Kd.R_told (Kd.R_old (by (with_reducible repeat (first | apply Kd.R_alloc | apply Kd.R_drewN | apply Kd.R_drew)); exact (Kd.R_mono (Kd.R_far (p := ⟨gb345, 1, none⟩) (Kd.R_far (p := ⟨gb345, 0, none⟩) (Kd.R_types HO343.out BK345.out (by decide)) (fun _ hk => hk.2) (.slice Ao9 t338.length co9)) (fun _ hk => hk.2) (.slice Ao11 t341.length co11)) (fun _ h_ => h_.1))) hb) (Kd.R_base ho0)) (Kd.R_base ho1)) (fun _ h_ => h_.1)); have n2_ := Aside0.mk (Kd.R_lower (Kd.R_new' (Kd.R_new' ho0 (Kd.R_lt (by (with_reducible repeat (first | apply Kd.R_alloc | apply Kd.R_drewN | apply Kd.R_drew)); exact (Kd.R_mono (Kd.R_far (p := ⟨gb345, 1, none⟩) (Kd.R_far (p := ⟨gb345, 0, none⟩) (Kd.R_types HO340.out BK345.out (by decide)) (fun _ hk => hk.2) (.slice Ao9 t338.length co9)) (fun _ hk => hk.2) (.slice Ao11 t341.length co11)) (fun _ h_ => h_.1))))) (Kd.R_lt (by (with_reducible repeat (first | apply Kd.R_alloc | apply Kd.R_drewN | apply Kd.R_drew)); exact (Kd.R_mono (Kd.R_far (p := ⟨gb345, 1, none⟩) (Kd.R_far (p := ⟨gb345, 0, none⟩) (Kd.R_types HO343.out BK345.out (by decide)) (fun _ hk => hk.2) (.slice Ao9 t338.length co9)) (fun _ hk => hk.2) (.slice Ao11 t341.length co11)) (fun _ h_ => h_.1))))) (below_size (by repeat (first | (with_reducible first | exact HB.out | apply below_alloc | apply pw_below_drewN | apply below_drew1 | refine below_set ?_ GE345.out) | exact HB.out)))); have n3_ := Aside0.mk (Kd.R_lower (Kd.R_new' (Kd.R_new' ho1 (Kd.R_lt (by (with_reducible repeat (first | apply Kd.R_alloc | apply Kd.R_drewN | apply Kd.R_drew)); exact (Kd.R_mono (Kd.R_far (p := ⟨gb345, 1, none⟩) (Kd.R_far (p := ⟨gb345, 0, none⟩) (Kd.R_types HO340.out BK345.out (by decide)) (fun _ hk => hk.2) (.slice Ao9 t338.length co9)) (fun _ hk => hk.2) (.slice Ao11 t341.length co11)) (fun _ h_ => h_.1))))) (Kd.R_lt (by (with_reducible repeat (first | apply Kd.R_alloc | apply Kd.R_drewN | apply Kd.R_drew)); exact (Kd.R_mono (Kd.R_far (p := ⟨gb345, 1, none⟩) (Kd.R_far (p := ⟨gb345, 0, none⟩) (Kd.R_types HO343.out BK345.out (by decide)) (fun _ hk => hk.2) (.slice Ao9 t338.length co9)) (fun _ hk => hk.2) (.slice Ao11 t341.length co11)) (fun _ h_ => h_.1))))) (below_size (by repeat (first | (with_reducible first | exact HB.out | apply below_alloc | apply pw_below_drewN | apply below_drew1 | refine below_set ?_ GE345.out) | exact HB.out)))); have n4_ := Aside0.mk (blk_below (g := gb345) (o := .cells #[.slice Ao9 t338.length co9, .slice Ao11 t341.length co11] 36 (0, 0)) (by (with_reducible repeat (first | refine blk_drewN ?_ _ | refine blk_drew ?_ | refine blk_alloc ?_ _)); refine blk_put (cs := #[.slice Ao9 t338.length co9, .slice none 0 0]) ?_ 1 _ rfl; (with_reducible repeat (first | refine blk_drewN ?_ _ | refine blk_drew ?_ | refine blk_alloc ?_ _)); refine blk_put (cs := #[.slice none 0 0, .slice none 0 0]) ?_ 0 _ rfl; (with_reducible repeat (first | refine blk_drewN ?_ _ | refine blk_drew ?_ | refine blk_alloc ?_ _)); exact BK345.out) hb); have n5_ := Aside0.mk (below_step (by repeat (first | (with_reducible first | exact HB.out | apply below_alloc | apply pw_below_drewN | apply below_drew1 | refine below_set ?_ GE345.out) | exact HB.out)) hb); clear HO340; clear HO343; clear BK345; clear HB; have HO340 := n0_; have HO343 := n1_; have HO348 := n2_; have HO351 := n3_; have BK345 := n4_; have HB := n5_; clear n0_ n1_ n2_ n3_ n4_ n5_; (try clear hb); (try clear hb2); (try clear hk); (try clear hi); (try clear ho0); (try clear ho1)) | ((with_reducible refine gate_dst (N := 10) rfl ?_); refine box_event ?hg (N := 10) ?hd (cs := #[.slice none 0 0, .slice none 0 0]) (t := 36) ?hr ?_; (case hd => rfl); (case hg => rfl); (case hr => first | (go_simp; done) | (go_simp; rfl)); intro gb353 hg w13 hbox hb; have n0_ := Aside0.mk (Kd.R_below (by (with_reducible repeat (first | apply Kd.R_alloc | apply Kd.R_drewN | apply Kd.R_drew)); exact HO340.out) hb); have n1_ := Aside0.mk (Kd.R_below (by (with_reducible repeat (first | apply Kd.R_alloc | apply Kd.R_drewN | apply Kd.R_drew)); exact HO343.out) hb); have n2_ := Aside0.mk (Kd.R_below (by (with_reducible repeat (first | apply Kd.R_alloc | apply Kd.R_drewN | apply Kd.R_drew)); exact HO348.out) hb); have n3_ := Aside0.mk (Kd.R_below (by (with_reducible repeat (first | apply Kd.R_alloc | apply Kd.R_drewN | apply Kd.R_drew)); exact HO351.out) hb); have n4_ := Aside0.mk (blk_below (g := gb345) (o := .cells #[.slice Ao9 t338.length co9, .slice Ao11 t341.length co11] 36 (0, 0)) (by (with_reducible repeat (first | refine blk_drewN ?_ _ | refine blk_drew ?_ | refine blk_alloc ?_ _)); exact BK345.out) hb); have n5_ := Aside0.mk (below_step (by repeat (first | (with_reducible first | exact HB.out | apply below_alloc | apply pw_below_drewN | apply below_drew1 | refine below_set ?_ GE345.out) | exact HB.out)) hb); have n6_ := Aside0.mk (hbox); have n7_ := Aside0.mk ((by rw [hg]; exact (below_size (by repeat (first | (with_reducible first | exact HB.out | apply below_alloc | apply pw_below_drewN | apply below_drew1 | refine below_set ?_ GE345.out) | exact HB.out))) : w.heap.size ≤ gb353)); have n8_ := Aside0.mk ((by rw [hg]; exact (below_size (by repeat (first | (with_reducible first | exact HB.out | apply below_alloc | apply pw_below_drewN | apply below_drew1 | refine below_set ?_ GE345.out) | exact HB.out))) : w.heap.size ≤ gb353)); have n9_ := Aside0.mk ((by rw [hg]; exact Nat.ne_of_lt (blk_lt (g := gb345) (o := .cells #[.slice Ao9 t338.length co9, .slice Ao11 t341.length co11] 36 (0, 0)) (by (with_reducible repeat (first | refine blk_drewN ?_ _ | refine blk_drew ?_ | refine blk_alloc ?_ _)); exact BK345.out)) : gb345 ≠ gb353)); have n10_ := Aside0.mk ((by rw [hg]; exact Nat.ne_of_gt (blk_lt (g := gb345) (o := .cells #[.slice Ao9 t338.length co9, .slice Ao11 t341.length co11] 36 (0, 0)) (by (with_reducible repeat (first | refine blk_drewN ?_ _ | refine blk_drew ?_ | refine blk_alloc ?_ _)); exact BK345.out)) : gb353 ≠ gb345)); clear HO340; clear HO343; clear HO348; clear HO351; clear BK345; clear HB; have HO340 := n0_; have HO343 := n1_; have HO348 := n2_; have HO351 := n3_; have BK345 := n4_; have HB := n5_; have BK353 := n6_; have GW353 := n7_; have GE353 := n8_; have NB345_353 := n9_; have NB353_345 := n10_; clear n0_ n1_ n2_ n3_ n4_ n5_ n6_ n7_ n8_ n9_ n10_; clear hb hbox hg; obtain ⟨Ao14, co14, eo14⟩ := Kd.R_slice HO348.out; subst eo14; have hnb15 := NB353_345.out; have hnc15 := NB345_353.out; have hcz16_0 : w13.cell? ⟨gb353, 0, none⟩ = some (.slice none 0 0) := (blk_cell BK353.out 0).trans rfl; have hcz16_1 : w13.cell? ⟨gb353, 1, none⟩ = some (.slice none 0 0) := (blk_cell BK353.out 1).trans rfl; have hfz16_0 := blk_frozen BK353.out 0; have hfz16_1 := blk_frozen BK353.out 1; obtain ⟨Ao17, co17, eo17⟩ := Kd.R_slice HO351.out; subst eo17))
  (try simp only [Act.put, List.setIfInBounds_toArray, List.set_cons_zero, List.set_cons_succ])
  go_cut [32] (fun v32 wc => ∃ (kq : Nat) (x32_5 : Bool), v32 = .bool x32_5 ∧ Aside0 (spec_l2Two.j0 kq a2 x32_5 t338 t341 t346 t349 = some (r1, r2)) ∧ Aside0 (kq ≤ k) ∧ Aside0 (Kd.R Kd.bool 4 wc w.heap.size (fun k_ => some k_ ≠ ((.slice Ao11 t341.length co11) : Value).ownBlock ∧ some k_ ≠ ((.slice Ao14 t346.length co14) : Value).ownBlock ∧ some k_ ≠ ((.slice Ao17 t349.length co17) : Value).ownBlock) (.slice Ao9 t338.length co9) t338) ∧ Aside0 (Kd.R Kd.bool 4 wc w.heap.size (fun k_ => some k_ ≠ ((.slice Ao9 t338.length co9) : Value).ownBlock ∧ some k_ ≠ ((.slice Ao14 t346.length co14) : Value).ownBlock ∧ some k_ ≠ ((.slice Ao17 t349.length co17) : Value).ownBlock) (.slice Ao11 t341.length co11) t341) ∧ Aside0 (Kd.R Kd.bool 4 wc w.heap.size (fun k_ => some k_ ≠ ((.slice Ao9 t338.length co9) : Value).ownBlock ∧ some k_ ≠ ((.slice Ao11 t341.length co11) : Value).ownBlock ∧ some k_ ≠ ((.slice Ao17 t349.length co17) : Value).ownBlock) (.slice Ao14 t346.length co14) t346) ∧ Aside0 (Kd.R Kd.bool 4 wc w.heap.size (fun k_ => some k_ ≠ ((.slice Ao9 t338.length co9) : Value).ownBlock ∧ some k_ ≠ ((.slice Ao11 t341.length co11) : Value).ownBlock ∧ some k_ ≠ ((.slice Ao14 t346.length co14) : Value).ownBlock) (.slice Ao17 t349.length co17) t349) ∧ Aside0 (wc.heap[gb345]? = some (.cells #[(.slice Ao9 t338.length co9), (.slice Ao11 t341.length co11)] 36 (0, 0))) ∧ Aside0 (wc.heap[gb353]? = some (.cells #[(.slice Ao14 t346.length co14), (.slice Ao17 t349.length co17)] 36 (0, 0))) ∧ Aside0 (Below w.heap.size w wc))
  case first =>
    have H := HC6.out
    clear HC6
    by_cases c18 : t344 = true
    · subst c18
      have H1 : (spec_l2Two.j0 k a2 (!t352) t338 t341 t346 t349) = some (r1, r2) := by rw [if_pos rfl] at H; exact H
      clear H
      have H := H1
      clear H1
      have H' := Aside0.mk H
      clear H
      go_wp2
      go_meet
      case rel => exact ⟨_, (!t352), (by first | rfl | (simp; done) | (simp [*]; done) | (simp [Int.tmod_eq_emod_of_nonneg]; done)), H', ⟨by first | omega | exact Nat.le_refl _⟩, ⟨by (with_reducible repeat (first | apply Kd.R_alloc | apply Kd.R_drewN | apply Kd.R_drew)); exact Kd.R_mono (Kd.R_far (p := ⟨gb353, 1, none⟩) (Kd.R_far (p := ⟨gb353, 0, none⟩) (Kd.R_types HO340.out BK353.out (by decide)) (fun _ hk => hk.2) (.slice Ao14 t346.length co14)) (fun _ hk => hk.2) (.slice Ao17 t349.length co17)) (fun _ hk => ⟨hk.1.1.1, ⟨hk.1.1.2, hk.1.2⟩⟩)⟩, ⟨by (with_reducible repeat (first | apply Kd.R_alloc | apply Kd.R_drewN | apply Kd.R_drew)); exact Kd.R_mono (Kd.R_far (p := ⟨gb353, 1, none⟩) (Kd.R_far (p := ⟨gb353, 0, none⟩) (Kd.R_types HO343.out BK353.out (by decide)) (fun _ hk => hk.2) (.slice Ao14 t346.length co14)) (fun _ hk => hk.2) (.slice Ao17 t349.length co17)) (fun _ hk => ⟨hk.1.1.1, ⟨hk.1.1.2, hk.1.2⟩⟩)⟩, ⟨by (with_reducible repeat (first | apply Kd.R_alloc | apply Kd.R_drewN | apply Kd.R_drew)); exact Kd.R_mono (Kd.R_far (p := ⟨gb353, 1, none⟩) (Kd.R_far (p := ⟨gb353, 0, none⟩) (Kd.R_types HO348.out BK353.out (by decide)) (fun _ hk => hk.2) (.slice Ao14 t346.length co14)) (fun _ hk => hk.2) (.slice Ao17 t349.length co17)) (fun _ hk => ⟨hk.1.1.2, ⟨hk.1.2, hk.1.1.1⟩⟩)⟩, ⟨by (with_reducible repeat (first | apply Kd.R_alloc | apply Kd.R_drewN | apply Kd.R_drew)); exact Kd.R_mono (Kd.R_far (p := ⟨gb353, 1, none⟩) (Kd.R_far (p := ⟨gb353, 0, none⟩) (Kd.R_types HO351.out BK353.out (by decide)) (fun _ hk => hk.2) (.slice Ao14 t346.length co14)) (fun _ hk => hk.2) (.slice Ao17 t349.length co17)) (fun _ hk => ⟨hk.1.1.2, ⟨hk.1.2, hk.1.1.1⟩⟩)⟩, ⟨by (with_reducible repeat (first | refine blk_drewN ?_ _ | refine blk_drew ?_ | refine blk_alloc ?_ _)); refine blk_far ?_ NB345_353.out _; (with_reducible repeat (first | refine blk_drewN ?_ _ | refine blk_drew ?_ | refine blk_alloc ?_ _)); refine blk_far ?_ NB345_353.out _; (with_reducible repeat (first | refine blk_drewN ?_ _ | refine blk_drew ?_ | refine blk_alloc ?_ _)); exact BK345.out⟩, ⟨by (with_reducible repeat (first | refine blk_drewN ?_ _ | refine blk_drew ?_ | refine blk_alloc ?_ _)); refine blk_put (cs := #[.slice Ao14 t346.length co14, .slice none 0 0]) ?_ 1 _ rfl; (with_reducible repeat (first | refine blk_drewN ?_ _ | refine blk_drew ?_ | refine blk_alloc ?_ _)); refine blk_put (cs := #[.slice none 0 0, .slice none 0 0]) ?_ 0 _ rfl; (with_reducible repeat (first | refine blk_drewN ?_ _ | refine blk_drew ?_ | refine blk_alloc ?_ _)); exact BK353.out⟩, ⟨by repeat (first | (with_reducible first | exact HB.out | apply below_alloc | apply pw_below_drewN | apply below_drew1 | refine below_set ?_ GE345.out | refine below_set ?_ GE353.out) | exact HB.out)⟩⟩
    · replace c18 := Bool.eq_false_iff.mpr c18
      subst c18
      have H1 : (spec_l2Two.j0 k a2 true t338 t341 t346 t349) = some (r1, r2) := by rw [if_neg (show ¬ (false = true) by decide)] at H; exact H
      clear H
      have H := H1
      clear H1
      have H' := Aside0.mk H
      clear H
      go_wp2
      go_meet
      case rel => exact ⟨_, (true), (by first | rfl | (simp; done) | (simp [*]; done) | (simp [Int.tmod_eq_emod_of_nonneg]; done)), H', ⟨by first | omega | exact Nat.le_refl _⟩, ⟨by (with_reducible repeat (first | apply Kd.R_alloc | apply Kd.R_drewN | apply Kd.R_drew)); exact Kd.R_mono (Kd.R_far (p := ⟨gb353, 1, none⟩) (Kd.R_far (p := ⟨gb353, 0, none⟩) (Kd.R_types HO340.out BK353.out (by decide)) (fun _ hk => hk.2) (.slice Ao14 t346.length co14)) (fun _ hk => hk.2) (.slice Ao17 t349.length co17)) (fun _ hk => ⟨hk.1.1.1, ⟨hk.1.1.2, hk.1.2⟩⟩)⟩, ⟨by (with_reducible repeat (first | apply Kd.R_alloc | apply Kd.R_drewN | apply Kd.R_drew)); exact Kd.R_mono (Kd.R_far (p := ⟨gb353, 1, none⟩) (Kd.R_far (p := ⟨gb353, 0, none⟩) (Kd.R_types HO343.out BK353.out (by decide)) (fun _ hk => hk.2) (.slice Ao14 t346.length co14)) (fun _ hk => hk.2) (.slice Ao17 t349.length co17)) (fun _ hk => ⟨hk.1.1.1, ⟨hk.1.1.2, hk.1.2⟩⟩)⟩, ⟨by (with_reducible repeat (first | apply Kd.R_alloc | apply Kd.R_drewN | apply Kd.R_drew)); exact Kd.R_mono (Kd.R_far (p := ⟨gb353, 1, none⟩) (Kd.R_far (p := ⟨gb353, 0, none⟩) (Kd.R_types HO348.out BK353.out (by decide)) (fun _ hk => hk.2) (.slice Ao14 t346.length co14)) (fun _ hk => hk.2) (.slice Ao17 t349.length co17)) (fun _ hk => ⟨hk.1.1.2, ⟨hk.1.2, hk.1.1.1⟩⟩)⟩, ⟨by (with_reducible repeat (first | apply Kd.R_alloc | apply Kd.R_drewN | apply Kd.R_drew)); exact Kd.R_mono (Kd.R_far (p := ⟨gb353, 1, none⟩) (Kd.R_far (p := ⟨gb353, 0, none⟩) (Kd.R_types HO351.out BK353.out (by decide)) (fun _ hk => hk.2) (.slice Ao14 t346.length co14)) (fun _ hk => hk.2) (.slice Ao17 t349.length co17)) (fun _ hk => ⟨hk.1.1.2, ⟨hk.1.2, hk.1.1.1⟩⟩)⟩, ⟨by (with_reducible repeat (first | refine blk_drewN ?_ _ | refine blk_drew ?_ | refine blk_alloc ?_ _)); refine blk_far ?_ NB345_353.out _; (with_reducible repeat (first | refine blk_drewN ?_ _ | refine blk_drew ?_ | refine blk_alloc ?_ _)); refine blk_far ?_ NB345_353.out _; (with_reducible repeat (first | refine blk_drewN ?_ _ | refine blk_drew ?_ | refine blk_alloc ?_ _)); exact BK345.out⟩, ⟨by (with_reducible repeat (first | refine blk_drewN ?_ _ | refine blk_drew ?_ | refine blk_alloc ?_ _)); refine blk_put (cs := #[.slice Ao14 t346.length co14, .slice none 0 0]) ?_ 1 _ rfl; (with_reducible repeat (first | refine blk_drewN ?_ _ | refine blk_drew ?_ | refine blk_alloc ?_ _)); refine blk_put (cs := #[.slice none 0 0, .slice none 0 0]) ?_ 0 _ rfl; (with_reducible repeat (first | refine blk_drewN ?_ _ | refine blk_drew ?_ | refine blk_alloc ?_ _)); exact BK353.out⟩, ⟨by repeat (first | (with_reducible first | exact HB.out | apply below_alloc | apply pw_below_drewN | apply below_drew1 | refine below_set ?_ GE345.out | refine below_set ?_ GE353.out) | exact HB.out)⟩⟩
  case rest =>
    clear HC6
    try clear c1
    try clear c2
    try clear p2
    try clear c3
    try clear c15
    try clear c18
    try clear hcz10_0
    try clear hcz10_1
    try clear hcz16_0
    try clear hcz16_1
    try clear hfz10_0
    try clear hfz10_1
    try clear hfz16_0
    try clear hfz16_1
    obtain ⟨kq, x32_5, rfl, HA, HJ5, HO_346000, HO_346001, HO_354000, HO_354001, BK345, BK353, HB⟩ := hcut
    cases kq with
    | zero => exact absurd HA.out (by simp [spec_l2Two.j0])
    | succ kj5 =>
      have H := HA.out
      clear HA
      simp only [spec_l2Two.j0] at H
      by_cases c19 : x32_5 = true
      · subst c19
        have H1 : (some ((⟨#[]⟩ : ByteArray), false)) = some (r1, r2) := by rw [if_pos rfl] at H; exact H
        clear H
        have H := H1
        clear H1
        simp only [Option.some.injEq, Prod.mk.injEq] at H
        obtain ⟨rfl, rfl⟩ := H
        go_wp2
        go_ret2
        exact ⟨by first | rfl | (simp [errW_none, errW_some] <;> rfl) | (simp [*, errW_none, errW_some] <;> rfl) | (simp [errW_none, errW_some]; exact ⟨rfl, rfl⟩), by repeat (first | (with_reducible first | exact HB.out | apply below_alloc | apply pw_below_drewN | apply below_drew1 | refine below_set ?_ GE345.out | refine below_set ?_ GE353.out) | exact HB.out)⟩
      · replace c19 := Bool.eq_false_iff.mpr c19
        subst c19
        have H1 : ((spec_l1Shape.f kj5 t338 t341 t346 t349).bind fun bt354 => (spec_l2Two.l0 kj5 a2 bt354.1 bt354.2 0 t338 t341 t346 t349 (([] : List Bool)) (([] : List Bool)))) = some (r1, r2) := by rw [if_neg (show ¬ (false = true) by decide)] at H; exact H
        clear H
        have H := H1
        clear H1
        replace H := Option.bind_eq_some_iff.mp H
        obtain ⟨⟨t354, t355⟩, A200, H⟩ := H
        replace H : (spec_l2Two.l0 kj5 a2 t354 t355 0 t338 t341 t346 t349 (([] : List Bool)) (([] : List Bool))) = some (r1, r2) := H
        have A20 := Aside0.mk A200
        clear A200
        obtain ⟨y356, hy356⟩ : ∃ y_ : List Bool, y_ = (([] : List Bool)) := ⟨_, rfl⟩
        replace H : (spec_l2Two.l0 kj5 a2 t354 t355 0 t338 t341 t346 t349 y356 (([] : List Bool))) = some (r1, r2) := by first | (rw [hy356]; with_reducible exact H) | (have H2_ := (Option.bind_some _ _).symm.trans H; rw [hy356]; with_reducible exact H2_) | (have H2_ := (Option.bind_some _ _).symm.trans H; with_reducible exact H2_) | with_reducible exact H | (rw [hy356]; exact H) | exact H
        have Ny356 := Aside0.mk hy356
        clear hy356
        obtain ⟨y359, hy359⟩ : ∃ y_ : List Bool, y_ = (([] : List Bool)) := ⟨_, rfl⟩
        replace H : (spec_l2Two.l0 kj5 a2 t354 t355 0 t338 t341 t346 t349 y356 y359) = some (r1, r2) := by first | (rw [hy359]; with_reducible exact H) | (have H2_ := (Option.bind_some _ _).symm.trans H; rw [hy359]; with_reducible exact H2_) | (have H2_ := (Option.bind_some _ _).symm.trans H; with_reducible exact H2_) | with_reducible exact H | (rw [hy359]; exact H) | exact H
        have Ny359 := Aside0.mk hy359
        clear hy359
        have H' := Aside0.mk H
        clear H
        have hnb21 := NB345_353.out
        have hnc21 := NB353_345.out
        have hcz22_0 : wc.cell? ⟨gb345, 0, none⟩ = some (.slice Ao9 t338.length co9) := (blk_cell BK345.out 0).trans rfl
        have hcz22_1 : wc.cell? ⟨gb345, 1, none⟩ = some (.slice Ao11 t341.length co11) := (blk_cell BK345.out 1).trans rfl
        have hfz22_0 := blk_frozen BK345.out 0
        have hfz22_1 := blk_frozen BK345.out 1
        have hcz23_0 : wc.cell? ⟨gb353, 0, none⟩ = some (.slice Ao14 t346.length co14) := (blk_cell BK353.out 0).trans rfl
        have hcz23_1 : wc.cell? ⟨gb353, 1, none⟩ = some (.slice Ao17 t349.length co17) := (blk_cell BK353.out 1).trans rfl
        have hfz23_0 := blk_frozen BK353.out 0
        have hfz23_1 := blk_frozen BK353.out 1
        go_wp2_with (first | ((with_reducible refine gate_callee (f := 52) rfl ?_); refine goesL_ (some 36) rfl rfl Try.func52 (by kernel_rfl) rfl #[.agg #[.slice Ao9 t338.length co9, .slice Ao11 t341.length co11], .agg #[.slice Ao14 t346.length co14, .slice Ao17 t349.length co17]] rfl (by (try simp only [List.map_toArray, List.map_cons, List.map_nil]); first | done | rfl | (simp only [List.length_drop, List.length_take]; rfl)) ?_; (with_reducible refine (spec_l1Shape.calls kj5 _ _ t338 _ _ t341 _ _ t346 _ _ t349 t354 t355 _ ?side1 ?side2 ?side3 ?side4 ?side5 ?side6 ?side7 ?side8 A20.out).mono ?_); (case side1 => repeat (first | exact (Kd.R_reads' HO_346000.out).2.2 | (with_reducible refine Kd.C_alloc ?_ _) | (with_reducible refine Kd.C_drewN ?_ _) | (with_reducible refine Kd.C_drew ?_))); (case side2 => exact (Kd.R_reads' HO_346000.out).2.1); (case side3 => repeat (first | exact (Kd.R_reads' HO_346001.out).2.2 | (with_reducible refine Kd.C_alloc ?_ _) | (with_reducible refine Kd.C_drewN ?_ _) | (with_reducible refine Kd.C_drew ?_))); (case side4 => exact (Kd.R_reads' HO_346001.out).2.1); (case side5 => repeat (first | exact (Kd.R_reads' HO_354000.out).2.2 | (with_reducible refine Kd.C_alloc ?_ _) | (with_reducible refine Kd.C_drewN ?_ _) | (with_reducible refine Kd.C_drew ?_))); (case side6 => exact (Kd.R_reads' HO_354000.out).2.1); (case side7 => repeat (first | exact (Kd.R_reads' HO_354001.out).2.2 | (with_reducible refine Kd.C_alloc ?_ _) | (with_reducible refine Kd.C_drewN ?_ _) | (with_reducible refine Kd.C_drew ?_))); (case side8 => exact (Kd.R_reads' HO_354001.out).2.1); rintro e w24 ⟨rfl, hb⟩; refine ⟨_, rfl, ?_⟩; have n0_ := Aside0.mk (Kd.R_below (by (with_reducible repeat (first | apply Kd.R_alloc | apply Kd.R_drewN | apply Kd.R_drew)); exact HO_346000.out) hb); have n1_ := Aside0.mk (Kd.R_below (by (with_reducible repeat (first | apply Kd.R_alloc | apply Kd.R_drewN | apply Kd.R_drew)); exact HO_346001.out) hb); have n2_ := Aside0.mk (Kd.R_below (by (with_reducible repeat (first | apply Kd.R_alloc | apply Kd.R_drewN | apply Kd.R_drew)); exact HO_354000.out) hb); have n3_ := Aside0.mk (Kd.R_below (by (with_reducible repeat (first | apply Kd.R_alloc | apply Kd.R_drewN | apply Kd.R_drew)); exact HO_354001.out) hb); have n4_ := Aside0.mk (blk_below (g := gb345) (o := .cells #[.slice Ao9 t338.length co9, .slice Ao11 t341.length co11] 36 (0, 0)) (by (with_reducible repeat (first | refine blk_drewN ?_ _ | refine blk_drew ?_ | refine blk_alloc ?_ _)); exact BK345.out) hb); have n5_ := Aside0.mk (blk_below (g := gb353) (o := .cells #[.slice Ao14 t346.length co14, .slice Ao17 t349.length co17] 36 (0, 0)) (by (with_reducible repeat (first | refine blk_drewN ?_ _ | refine blk_drew ?_ | refine blk_alloc ?_ _)); exact BK353.out) hb); have n6_ := Aside0.mk (below_step (by repeat (first | (with_reducible first | exact HB.out | apply below_alloc | apply pw_below_drewN | apply below_drew1 | refine below_set ?_ GE345.out | refine below_set ?_ GE353.out) | exact HB.out)) hb); clear HO_346000; clear HO_346001; clear HO_354000; clear HO_354001; clear BK345; clear BK353; clear HB; have HO_346000 := n0_; have HO_346001 := n1_; have HO_354000 := n2_; have HO_354001 := n3_; have BK345 := n4_; have BK353 := n5_; have HB := n6_; clear n0_ n1_ n2_ n3_ n4_ n5_ n6_; (try clear hb); (try clear hb2); (try clear hk); (try clear hi)) | ((with_reducible refine gate_dst (N := 39) rfl ?_); refine Kd.R_lit Kd.bool _ 4 ?hg (N := 39) ?hd (xs := ([] : List Bool)) (inner := []) (ok := fun _ => True) (okp := fun _ => True) ?hr ?hp (fun _ hk => hk) trivial (Below.refl _ _) (Nat.le_refl _) (by simp) ?_; (case hd => rfl); (case hg => rfl); (case hr => first | (go_simp; done) | (go_simp; rfl)); (case hp => exact (Reps.none _ _)); intro v357 w25 ho26 hb hg_ hnew_; clear hg_ hnew_; (first | rw [← Ny356.out] at ho26 | (simp only [Int.reduceToNat] at ho26; rw [← Ny356.out] at ho26)); have n0_ := Aside0.mk (Kd.R_elder' (by (with_reducible repeat (first | apply Kd.R_alloc | apply Kd.R_drewN | apply Kd.R_drew)); exact HO_346000.out) (Kd.R_base ho26) hb); have n1_ := Aside0.mk (Kd.R_elder' (by (with_reducible repeat (first | apply Kd.R_alloc | apply Kd.R_drewN | apply Kd.R_drew)); exact HO_346001.out) (Kd.R_base ho26) hb); have n2_ := Aside0.mk (Kd.R_elder' (by (with_reducible repeat (first | apply Kd.R_alloc | apply Kd.R_drewN | apply Kd.R_drew)); exact HO_354000.out) (Kd.R_base ho26) hb); have n3_ := Aside0.mk (Kd.R_elder' (by (with_reducible repeat (first | apply Kd.R_alloc | apply Kd.R_drewN | apply Kd.R_drew)); exact HO_354001.out) (Kd.R_base ho26) hb); have n4_ := Aside0.mk (Kd.R_lower (Kd.R_new' (Kd.R_new' (Kd.R_new' (Kd.R_new' ho26 (Kd.R_lt (by (with_reducible repeat (first | apply Kd.R_alloc | apply Kd.R_drewN | apply Kd.R_drew)); exact HO_346000.out))) (Kd.R_lt (by (with_reducible repeat (first | apply Kd.R_alloc | apply Kd.R_drewN | apply Kd.R_drew)); exact HO_346001.out))) (Kd.R_lt (by (with_reducible repeat (first | apply Kd.R_alloc | apply Kd.R_drewN | apply Kd.R_drew)); exact HO_354000.out))) (Kd.R_lt (by (with_reducible repeat (first | apply Kd.R_alloc | apply Kd.R_drewN | apply Kd.R_drew)); exact HO_354001.out))) (below_size (by repeat (first | (with_reducible first | exact HB.out | apply below_alloc | apply pw_below_drewN | apply below_drew1 | refine below_set ?_ GE345.out | refine below_set ?_ GE353.out) | exact HB.out)))); have n5_ := Aside0.mk (blk_below (g := gb345) (o := .cells #[.slice Ao9 t338.length co9, .slice Ao11 t341.length co11] 36 (0, 0)) (by (with_reducible repeat (first | refine blk_drewN ?_ _ | refine blk_drew ?_ | refine blk_alloc ?_ _)); exact BK345.out) hb); have n6_ := Aside0.mk (blk_below (g := gb353) (o := .cells #[.slice Ao14 t346.length co14, .slice Ao17 t349.length co17] 36 (0, 0)) (by (with_reducible repeat (first | refine blk_drewN ?_ _ | refine blk_drew ?_ | refine blk_alloc ?_ _)); exact BK353.out) hb); have n7_ := Aside0.mk (below_step (by repeat (first | (with_reducible first | exact HB.out | apply below_alloc | apply pw_below_drewN | apply below_drew1 | refine below_set ?_ GE345.out | refine below_set ?_ GE353.out) | exact HB.out)) hb); clear HO_346000; clear HO_346001; clear HO_354000; clear HO_354001; clear BK345; clear BK353; clear HB; have HO_346000 := n0_; have HO_346001 := n1_; have HO_354000 := n2_; have HO_354001 := n3_; have HO358 := n4_; have BK345 := n5_; have BK353 := n6_; have HB := n7_; clear n0_ n1_ n2_ n3_ n4_ n5_ n6_ n7_; clear hb ho26) | ((with_reducible refine gate_dst (N := 40) rfl ?_); refine Kd.R_lit Kd.bool _ 4 ?hg (N := 40) ?hd (xs := ([] : List Bool)) (inner := []) (ok := fun _ => True) (okp := fun _ => True) ?hr ?hp (fun _ hk => hk) trivial (Below.refl _ _) (Nat.le_refl _) (by simp) ?_; (case hd => rfl); (case hg => rfl); (case hr => first | (go_simp; done) | (go_simp; rfl)); (case hp => exact (Reps.none _ _)); intro v360 w27 ho28 hb hg_ hnew_; clear hg_ hnew_; (first | rw [← Ny359.out] at ho28 | (simp only [Int.reduceToNat] at ho28; rw [← Ny359.out] at ho28)); have n0_ := Aside0.mk (Kd.R_elder' (by (with_reducible repeat (first | apply Kd.R_alloc | apply Kd.R_drewN | apply Kd.R_drew)); exact HO_346000.out) (Kd.R_base ho28) hb); have n1_ := Aside0.mk (Kd.R_elder' (by (with_reducible repeat (first | apply Kd.R_alloc | apply Kd.R_drewN | apply Kd.R_drew)); exact HO_346001.out) (Kd.R_base ho28) hb); have n2_ := Aside0.mk (Kd.R_elder' (by (with_reducible repeat (first | apply Kd.R_alloc | apply Kd.R_drewN | apply Kd.R_drew)); exact HO_354000.out) (Kd.R_base ho28) hb); have n3_ := Aside0.mk (Kd.R_elder' (by (with_reducible repeat (first | apply Kd.R_alloc | apply Kd.R_drewN | apply Kd.R_drew)); exact HO_354001.out) (Kd.R_base ho28) hb); have n4_ := Aside0.mk (Kd.R_elder' (by (with_reducible repeat (first | apply Kd.R_alloc | apply Kd.R_drewN | apply Kd.R_drew)); exact HO358.out) (Kd.R_base ho28) hb); have n5_ := Aside0.mk (Kd.R_lower (Kd.R_new' (Kd.R_new' (Kd.R_new' (Kd.R_new' (Kd.R_new' ho28 (Kd.R_lt (by (with_reducible repeat (first | apply Kd.R_alloc | apply Kd.R_drewN | apply Kd.R_drew)); exact HO_346000.out))) (Kd.R_lt (by (with_reducible repeat (first | apply Kd.R_alloc | apply Kd.R_drewN | apply Kd.R_drew)); exact HO_346001.out))) (Kd.R_lt (by (with_reducible repeat (first | apply Kd.R_alloc | apply Kd.R_drewN | apply Kd.R_drew)); exact HO_354000.out))) (Kd.R_lt (by (with_reducible repeat (first | apply Kd.R_alloc | apply Kd.R_drewN | apply Kd.R_drew)); exact HO_354001.out))) (Kd.R_lt (by (with_reducible repeat (first | apply Kd.R_alloc | apply Kd.R_drewN | apply Kd.R_drew)); exact HO358.out))) (below_size (by repeat (first | (with_reducible first | exact HB.out | apply below_alloc | apply pw_below_drewN | apply below_drew1 | refine below_set ?_ GE345.out | refine below_set ?_ GE353.out) | exact HB.out)))); have n6_ := Aside0.mk (blk_below (g := gb345) (o := .cells #[.slice Ao9 t338.length co9, .slice Ao11 t341.length co11] 36 (0, 0)) (by (with_reducible repeat (first | refine blk_drewN ?_ _ | refine blk_drew ?_ | refine blk_alloc ?_ _)); exact BK345.out) hb); have n7_ := Aside0.mk (blk_below (g := gb353) (o := .cells #[.slice Ao14 t346.length co14, .slice Ao17 t349.length co17] 36 (0, 0)) (by (with_reducible repeat (first | refine blk_drewN ?_ _ | refine blk_drew ?_ | refine blk_alloc ?_ _)); exact BK353.out) hb); have n8_ := Aside0.mk (below_step (by repeat (first | (with_reducible first | exact HB.out | apply below_alloc | apply pw_below_drewN | apply below_drew1 | refine below_set ?_ GE345.out | refine below_set ?_ GE353.out) | exact HB.out)) hb); clear HO_346000; clear HO_346001; clear HO_354000; clear HO_354001; clear HO358; clear BK345; clear BK353; clear HB; have HO_346000 := n0_; have HO_346001 := n1_; have HO_354000 := n2_; have HO_354001 := n3_; have HO358 := n4_; have HO361 := n5_; have BK345 := n6_; have BK353 := n7_; have HB := n8_; clear n0_ n1_ n2_ n3_ n4_ n5_ n6_ n7_ n8_; clear hb ho28; obtain ⟨Ao29, co29, eo29⟩ := Kd.R_slice HO361.out; subst eo29; obtain ⟨Ao30, co30, eo30⟩ := Kd.R_slice HO358.out; subst eo30) | ((with_reducible refine gate_dst (N := 14) rfl ?_); refine box_event ?hg (N := 14) ?hd (cs := #[.slice none 0 0, .slice none 0 0]) (t := 36) ?hr ?_; (case hd => rfl); (case hg => rfl); (case hr => first | (go_simp; done) | (go_simp; rfl)); intro gb362 hg w31 hbox hb; have n0_ := Aside0.mk (Kd.R_below (by (with_reducible repeat (first | apply Kd.R_alloc | apply Kd.R_drewN | apply Kd.R_drew)); exact HO_346000.out) hb); have n1_ := Aside0.mk (Kd.R_below (by (with_reducible repeat (first | apply Kd.R_alloc | apply Kd.R_drewN | apply Kd.R_drew)); exact HO_346001.out) hb); have n2_ := Aside0.mk (Kd.R_below (by (with_reducible repeat (first | apply Kd.R_alloc | apply Kd.R_drewN | apply Kd.R_drew)); exact HO_354000.out) hb); have n3_ := Aside0.mk (Kd.R_below (by (with_reducible repeat (first | apply Kd.R_alloc | apply Kd.R_drewN | apply Kd.R_drew)); exact HO_354001.out) hb); have n4_ := Aside0.mk (Kd.R_below (by (with_reducible repeat (first | apply Kd.R_alloc | apply Kd.R_drewN | apply Kd.R_drew)); exact HO358.out) hb); have n5_ := Aside0.mk (Kd.R_below (by (with_reducible repeat (first | apply Kd.R_alloc | apply Kd.R_drewN | apply Kd.R_drew)); exact HO361.out) hb); have n6_ := Aside0.mk (blk_below (g := gb345) (o := .cells #[.slice Ao9 t338.length co9, .slice Ao11 t341.length co11] 36 (0, 0)) (by (with_reducible repeat (first | refine blk_drewN ?_ _ | refine blk_drew ?_ | refine blk_alloc ?_ _)); exact BK345.out) hb); have n7_ := Aside0.mk (blk_below (g := gb353) (o := .cells #[.slice Ao14 t346.length co14, .slice Ao17 t349.length co17] 36 (0, 0)) (by (with_reducible repeat (first | refine blk_drewN ?_ _ | refine blk_drew ?_ | refine blk_alloc ?_ _)); exact BK353.out) hb); have n8_ := Aside0.mk (below_step (by repeat (first | (with_reducible first | exact HB.out | apply below_alloc | apply pw_below_drewN | apply below_drew1 | refine below_set ?_ GE345.out | refine below_set ?_ GE353.out) | exact HB.out)) hb); have n9_ := Aside0.mk (hbox); have n10_ := Aside0.mk ((by rw [hg]; exact (below_size (by repeat (first | (with_reducible first | exact HB.out | apply below_alloc | apply pw_below_drewN | apply below_drew1 | refine below_set ?_ GE345.out | refine below_set ?_ GE353.out) | exact HB.out))) : w.heap.size ≤ gb362)); have n11_ := Aside0.mk ((by rw [hg]; exact (below_size (by repeat (first | (with_reducible first | exact HB.out | apply below_alloc | apply pw_below_drewN | apply below_drew1 | refine below_set ?_ GE345.out | refine below_set ?_ GE353.out) | exact HB.out))) : w.heap.size ≤ gb362)); have n12_ := Aside0.mk ((by rw [hg]; exact Nat.ne_of_lt (blk_lt (g := gb345) (o := .cells #[.slice Ao9 t338.length co9, .slice Ao11 t341.length co11] 36 (0, 0)) (by (with_reducible repeat (first | refine blk_drewN ?_ _ | refine blk_drew ?_ | refine blk_alloc ?_ _)); exact BK345.out)) : gb345 ≠ gb362)); have n13_ := Aside0.mk ((by rw [hg]; exact Nat.ne_of_gt (blk_lt (g := gb345) (o := .cells #[.slice Ao9 t338.length co9, .slice Ao11 t341.length co11] 36 (0, 0)) (by (with_reducible repeat (first | refine blk_drewN ?_ _ | refine blk_drew ?_ | refine blk_alloc ?_ _)); exact BK345.out)) : gb362 ≠ gb345)); have n14_ := Aside0.mk ((by rw [hg]; exact Nat.ne_of_lt (blk_lt (g := gb353) (o := .cells #[.slice Ao14 t346.length co14, .slice Ao17 t349.length co17] 36 (0, 0)) (by (with_reducible repeat (first | refine blk_drewN ?_ _ | refine blk_drew ?_ | refine blk_alloc ?_ _)); exact BK353.out)) : gb353 ≠ gb362)); have n15_ := Aside0.mk ((by rw [hg]; exact Nat.ne_of_gt (blk_lt (g := gb353) (o := .cells #[.slice Ao14 t346.length co14, .slice Ao17 t349.length co17] 36 (0, 0)) (by (with_reducible repeat (first | refine blk_drewN ?_ _ | refine blk_drew ?_ | refine blk_alloc ?_ _)); exact BK353.out)) : gb362 ≠ gb353)); clear HO_346000; clear HO_346001; clear HO_354000; clear HO_354001; clear HO358; clear HO361; clear BK345; clear BK353; clear HB; have HO_346000 := n0_; have HO_346001 := n1_; have HO_354000 := n2_; have HO_354001 := n3_; have HO358 := n4_; have HO361 := n5_; have BK345 := n6_; have BK353 := n7_; have HB := n8_; have BK362 := n9_; have GW362 := n10_; have GE362 := n11_; have NB345_362 := n12_; have NB362_345 := n13_; have NB353_362 := n14_; have NB362_353 := n15_; clear n0_ n1_ n2_ n3_ n4_ n5_ n6_ n7_ n8_ n9_ n10_ n11_ n12_ n13_ n14_ n15_; clear hb hbox hg; have hnb32 := NB362_345.out; have hnc32 := NB345_362.out; have hnb33 := NB362_353.out; have hnc33 := NB353_362.out; have hcz34_0 : w31.cell? ⟨gb362, 0, none⟩ = some (.slice none 0 0) := (blk_cell BK362.out 0).trans rfl; have hcz34_1 : w31.cell? ⟨gb362, 1, none⟩ = some (.slice none 0 0) := (blk_cell BK362.out 1).trans rfl; have hfz34_0 := blk_frozen BK362.out 0; have hfz34_1 := blk_frozen BK362.out 1))
        go_loopg [15] kj5 (fun kq v15 w' => ∃ (x15_2 : Int) (x363000_2 : List Bool) (x363001_2 : List Bool) (u363000 : Value) (u363001 : Value), v15 = .int .i64 x15_2 ∧ Aside0 (spec_l2Two.l0 kq a2 t354 t355 x15_2 t338 t341 t346 t349 x363000_2 x363001_2 = some (r1, r2)) ∧ Aside0 (kq ≤ kj5) ∧ Aside0 (Kd.R Kd.bool 4 w' w.heap.size (fun k_ => some k_ ≠ ((.slice Ao11 t341.length co11) : Value).ownBlock ∧ some k_ ≠ ((.slice Ao14 t346.length co14) : Value).ownBlock ∧ some k_ ≠ ((.slice Ao17 t349.length co17) : Value).ownBlock ∧ some k_ ≠ (u363000 : Value).ownBlock ∧ some k_ ≠ (u363001 : Value).ownBlock) (.slice Ao9 t338.length co9) t338) ∧ Aside0 (Kd.R Kd.bool 4 w' w.heap.size (fun k_ => some k_ ≠ ((.slice Ao9 t338.length co9) : Value).ownBlock ∧ some k_ ≠ ((.slice Ao14 t346.length co14) : Value).ownBlock ∧ some k_ ≠ ((.slice Ao17 t349.length co17) : Value).ownBlock ∧ some k_ ≠ (u363000 : Value).ownBlock ∧ some k_ ≠ (u363001 : Value).ownBlock) (.slice Ao11 t341.length co11) t341) ∧ Aside0 (Kd.R Kd.bool 4 w' w.heap.size (fun k_ => some k_ ≠ ((.slice Ao9 t338.length co9) : Value).ownBlock ∧ some k_ ≠ ((.slice Ao11 t341.length co11) : Value).ownBlock ∧ some k_ ≠ ((.slice Ao17 t349.length co17) : Value).ownBlock ∧ some k_ ≠ (u363000 : Value).ownBlock ∧ some k_ ≠ (u363001 : Value).ownBlock) (.slice Ao14 t346.length co14) t346) ∧ Aside0 (Kd.R Kd.bool 4 w' w.heap.size (fun k_ => some k_ ≠ ((.slice Ao9 t338.length co9) : Value).ownBlock ∧ some k_ ≠ ((.slice Ao11 t341.length co11) : Value).ownBlock ∧ some k_ ≠ ((.slice Ao14 t346.length co14) : Value).ownBlock ∧ some k_ ≠ (u363000 : Value).ownBlock ∧ some k_ ≠ (u363001 : Value).ownBlock) (.slice Ao17 t349.length co17) t349) ∧ Aside0 (Kd.R Kd.bool 4 w' w.heap.size (fun k_ => some k_ ≠ ((.slice Ao9 t338.length co9) : Value).ownBlock ∧ some k_ ≠ ((.slice Ao11 t341.length co11) : Value).ownBlock ∧ some k_ ≠ ((.slice Ao14 t346.length co14) : Value).ownBlock ∧ some k_ ≠ ((.slice Ao17 t349.length co17) : Value).ownBlock ∧ some k_ ≠ (u363001 : Value).ownBlock) u363000 x363000_2) ∧ Aside0 (Kd.R Kd.bool 4 w' w.heap.size (fun k_ => some k_ ≠ ((.slice Ao9 t338.length co9) : Value).ownBlock ∧ some k_ ≠ ((.slice Ao11 t341.length co11) : Value).ownBlock ∧ some k_ ≠ ((.slice Ao14 t346.length co14) : Value).ownBlock ∧ some k_ ≠ ((.slice Ao17 t349.length co17) : Value).ownBlock ∧ some k_ ≠ (u363000 : Value).ownBlock) u363001 x363001_2) ∧ Aside0 (w'.heap[gb345]? = some (.cells #[(.slice Ao9 t338.length co9), (.slice Ao11 t341.length co11)] 36 (0, 0))) ∧ Aside0 (w'.heap[gb353]? = some (.cells #[(.slice Ao14 t346.length co14), (.slice Ao17 t349.length co17)] 36 (0, 0))) ∧ Aside0 (w'.heap[gb362]? = some (.cells #[u363000, u363001] 36 (0, 0))) ∧ Aside0 (Below w.heap.size w w'))
        case atStart => exact ⟨(0), (y356), (y359), (.slice Ao30 y356.length co30), (.slice Ao29 y359.length co29), (by first | rfl | (simp; done) | (simp [*]; done) | (simp [Int.tmod_eq_emod_of_nonneg]; done)), H', ⟨Nat.le_refl _⟩, ⟨by (with_reducible repeat (first | apply Kd.R_alloc | apply Kd.R_drewN | apply Kd.R_drew)); exact Kd.R_mono (Kd.R_far (p := ⟨gb362, 1, none⟩) (Kd.R_far (p := ⟨gb362, 0, none⟩) (Kd.R_types HO_346000.out BK362.out (by decide)) (fun _ hk => hk.2) (.slice Ao30 y356.length co30)) (fun _ hk => hk.2) (.slice Ao29 y359.length co29)) (fun _ hk => ⟨hk.1.1.1.1, ⟨hk.1.1.1.2.1, ⟨hk.1.1.1.2.2, ⟨hk.1.1.2, hk.1.2⟩⟩⟩⟩)⟩, ⟨by (with_reducible repeat (first | apply Kd.R_alloc | apply Kd.R_drewN | apply Kd.R_drew)); exact Kd.R_mono (Kd.R_far (p := ⟨gb362, 1, none⟩) (Kd.R_far (p := ⟨gb362, 0, none⟩) (Kd.R_types HO_346001.out BK362.out (by decide)) (fun _ hk => hk.2) (.slice Ao30 y356.length co30)) (fun _ hk => hk.2) (.slice Ao29 y359.length co29)) (fun _ hk => ⟨hk.1.1.1.1, ⟨hk.1.1.1.2.1, ⟨hk.1.1.1.2.2, ⟨hk.1.1.2, hk.1.2⟩⟩⟩⟩)⟩, ⟨by (with_reducible repeat (first | apply Kd.R_alloc | apply Kd.R_drewN | apply Kd.R_drew)); exact Kd.R_mono (Kd.R_far (p := ⟨gb362, 1, none⟩) (Kd.R_far (p := ⟨gb362, 0, none⟩) (Kd.R_types HO_354000.out BK362.out (by decide)) (fun _ hk => hk.2) (.slice Ao30 y356.length co30)) (fun _ hk => hk.2) (.slice Ao29 y359.length co29)) (fun _ hk => ⟨hk.1.1.1.1, ⟨hk.1.1.1.2.1, ⟨hk.1.1.1.2.2, ⟨hk.1.1.2, hk.1.2⟩⟩⟩⟩)⟩, ⟨by (with_reducible repeat (first | apply Kd.R_alloc | apply Kd.R_drewN | apply Kd.R_drew)); exact Kd.R_mono (Kd.R_far (p := ⟨gb362, 1, none⟩) (Kd.R_far (p := ⟨gb362, 0, none⟩) (Kd.R_types HO_354001.out BK362.out (by decide)) (fun _ hk => hk.2) (.slice Ao30 y356.length co30)) (fun _ hk => hk.2) (.slice Ao29 y359.length co29)) (fun _ hk => ⟨hk.1.1.1.1, ⟨hk.1.1.1.2.1, ⟨hk.1.1.1.2.2, ⟨hk.1.1.2, hk.1.2⟩⟩⟩⟩)⟩, ⟨by (with_reducible repeat (first | apply Kd.R_alloc | apply Kd.R_drewN | apply Kd.R_drew)); exact Kd.R_mono (Kd.R_far (p := ⟨gb362, 1, none⟩) (Kd.R_far (p := ⟨gb362, 0, none⟩) (Kd.R_types HO358.out BK362.out (by decide)) (fun _ hk => hk.2) (.slice Ao30 y356.length co30)) (fun _ hk => hk.2) (.slice Ao29 y359.length co29)) (fun _ hk => ⟨hk.1.1.1.1.1.2, ⟨hk.1.1.1.1.2, ⟨hk.1.1.1.2, ⟨hk.1.1.2, hk.1.2⟩⟩⟩⟩)⟩, ⟨by (with_reducible repeat (first | apply Kd.R_alloc | apply Kd.R_drewN | apply Kd.R_drew)); exact Kd.R_mono (Kd.R_far (p := ⟨gb362, 1, none⟩) (Kd.R_far (p := ⟨gb362, 0, none⟩) (Kd.R_types HO361.out BK362.out (by decide)) (fun _ hk => hk.2) (.slice Ao30 y356.length co30)) (fun _ hk => hk.2) (.slice Ao29 y359.length co29)) (fun _ hk => ⟨hk.1.1.1.1.1.2, ⟨hk.1.1.1.1.2, ⟨hk.1.1.1.2, ⟨hk.1.1.2, hk.1.2⟩⟩⟩⟩)⟩, ⟨by (with_reducible repeat (first | refine blk_drewN ?_ _ | refine blk_drew ?_ | refine blk_alloc ?_ _)); refine blk_far ?_ NB345_362.out _; (with_reducible repeat (first | refine blk_drewN ?_ _ | refine blk_drew ?_ | refine blk_alloc ?_ _)); refine blk_far ?_ NB345_362.out _; (with_reducible repeat (first | refine blk_drewN ?_ _ | refine blk_drew ?_ | refine blk_alloc ?_ _)); exact BK345.out⟩, ⟨by (with_reducible repeat (first | refine blk_drewN ?_ _ | refine blk_drew ?_ | refine blk_alloc ?_ _)); refine blk_far ?_ NB353_362.out _; (with_reducible repeat (first | refine blk_drewN ?_ _ | refine blk_drew ?_ | refine blk_alloc ?_ _)); refine blk_far ?_ NB353_362.out _; (with_reducible repeat (first | refine blk_drewN ?_ _ | refine blk_drew ?_ | refine blk_alloc ?_ _)); exact BK353.out⟩, ⟨by (with_reducible repeat (first | refine blk_drewN ?_ _ | refine blk_drew ?_ | refine blk_alloc ?_ _)); refine blk_put (cs := #[.slice Ao30 y356.length co30, .slice none 0 0]) ?_ 1 _ rfl; (with_reducible repeat (first | refine blk_drewN ?_ _ | refine blk_drew ?_ | refine blk_alloc ?_ _)); refine blk_put (cs := #[.slice none 0 0, .slice none 0 0]) ?_ 0 _ rfl; (with_reducible repeat (first | refine blk_drewN ?_ _ | refine blk_drew ?_ | refine blk_alloc ?_ _)); exact BK362.out⟩, ⟨by repeat (first | (with_reducible first | exact HB.out | apply below_alloc | apply pw_below_drewN | apply below_drew1 | refine below_set ?_ GE345.out | refine below_set ?_ GE353.out | refine below_set ?_ GE362.out) | exact HB.out)⟩⟩
        case round =>
          clear H'
          try clear c1
          try clear c2
          try clear p2
          try clear c3
          try clear c5
          try clear c15
          try clear c18
          try clear c19
          try clear c21
          try clear c24
          try clear c32
          try clear c33
          try clear c34
          try clear hcz10_0
          try clear hcz10_1
          try clear hcz16_0
          try clear hcz16_1
          try clear hcz22_0
          try clear hcz22_1
          try clear hcz23_0
          try clear hcz23_1
          try clear hcz34_0
          try clear hcz34_1
          try clear hfz10_0
          try clear hfz10_1
          try clear hfz16_0
          try clear hfz16_1
          try clear hfz22_0
          try clear hfz22_1
          try clear hfz23_0
          try clear hfz23_1
          try clear hfz34_0
          try clear hfz34_1
          try clear p2
          obtain ⟨x15_2, x363000_2, x363001_2, u363000, u363001, rfl, HA, HK2, HO_346000, HO_346001, HO_354000, HO_354001, HO_363000, HO_363001, BK345, BK353, BK362, HB⟩ := hrel
          cases gk with
          | zero => exact absurd HA.out (by simp [spec_l2Two.l0])
          | succ k2 =>
            have H := HA.out
            clear HA
            simp only [spec_l2Two.l0] at H
            by_cases c35 : x15_2 < (wrap64 (t354 + t355))
            · rw [if_pos c35] at H
              have c35b0 : decide (x15_2 < (wrap64 (t354 + t355))) = true := decide_eq_true c35
              clear c35
              replace H := Option.bind_eq_some_iff.mp H
              obtain ⟨t365, A360, H⟩ := H
              replace H : ((spec_l1Bit.f t365).bind fun t366 => ((spec_l1Has.f t346 t349 x15_2).bind fun t367 => ((spec_l1Bit.f t367).bind fun t368 => (if 0 ≤ (wrap64 ((wrap64 (2 * t366)) + t368)) then (if x15_2 < t354 then (if x363000_2.length < 140737488355328 then (spec_l2Two.l0 k2 a2 t354 t355 (wrap64 (x15_2 + 1)) t338 t341 t346 t349 (x363000_2 ++ [((Go.bits .and .i64 (shr .i64 a2 (wrap64 ((wrap64 (2 * t366)) + t368))) 1) == 1)]) x363001_2) else (none)) else (if x363001_2.length < 140737488355328 then (spec_l2Two.l0 k2 a2 t354 t355 (wrap64 (x15_2 + 1)) t338 t341 t346 t349 x363000_2 (x363001_2 ++ [((Go.bits .and .i64 (shr .i64 a2 (wrap64 ((wrap64 (2 * t366)) + t368))) 1) == 1)])) else (none))) else (none))))) = some (r1, r2) := H
              have A36 := Aside0.mk A360
              clear A360
              replace H := Option.bind_eq_some_iff.mp H
              obtain ⟨t366, A370, H⟩ := H
              replace H : ((spec_l1Has.f t346 t349 x15_2).bind fun t367 => ((spec_l1Bit.f t367).bind fun t368 => (if 0 ≤ (wrap64 ((wrap64 (2 * t366)) + t368)) then (if x15_2 < t354 then (if x363000_2.length < 140737488355328 then (spec_l2Two.l0 k2 a2 t354 t355 (wrap64 (x15_2 + 1)) t338 t341 t346 t349 (x363000_2 ++ [((Go.bits .and .i64 (shr .i64 a2 (wrap64 ((wrap64 (2 * t366)) + t368))) 1) == 1)]) x363001_2) else (none)) else (if x363001_2.length < 140737488355328 then (spec_l2Two.l0 k2 a2 t354 t355 (wrap64 (x15_2 + 1)) t338 t341 t346 t349 x363000_2 (x363001_2 ++ [((Go.bits .and .i64 (shr .i64 a2 (wrap64 ((wrap64 (2 * t366)) + t368))) 1) == 1)])) else (none))) else (none)))) = some (r1, r2) := H
              have A37 := Aside0.mk A370
              clear A370
              replace H := Option.bind_eq_some_iff.mp H
              obtain ⟨t367, A380, H⟩ := H
              replace H : ((spec_l1Bit.f t367).bind fun t368 => (if 0 ≤ (wrap64 ((wrap64 (2 * t366)) + t368)) then (if x15_2 < t354 then (if x363000_2.length < 140737488355328 then (spec_l2Two.l0 k2 a2 t354 t355 (wrap64 (x15_2 + 1)) t338 t341 t346 t349 (x363000_2 ++ [((Go.bits .and .i64 (shr .i64 a2 (wrap64 ((wrap64 (2 * t366)) + t368))) 1) == 1)]) x363001_2) else (none)) else (if x363001_2.length < 140737488355328 then (spec_l2Two.l0 k2 a2 t354 t355 (wrap64 (x15_2 + 1)) t338 t341 t346 t349 x363000_2 (x363001_2 ++ [((Go.bits .and .i64 (shr .i64 a2 (wrap64 ((wrap64 (2 * t366)) + t368))) 1) == 1)])) else (none))) else (none))) = some (r1, r2) := H
              have A38 := Aside0.mk A380
              clear A380
              replace H := Option.bind_eq_some_iff.mp H
              obtain ⟨t368, A390, H⟩ := H
              replace H : (if 0 ≤ (wrap64 ((wrap64 (2 * t366)) + t368)) then (if x15_2 < t354 then (if x363000_2.length < 140737488355328 then (spec_l2Two.l0 k2 a2 t354 t355 (wrap64 (x15_2 + 1)) t338 t341 t346 t349 (x363000_2 ++ [((Go.bits .and .i64 (shr .i64 a2 (wrap64 ((wrap64 (2 * t366)) + t368))) 1) == 1)]) x363001_2) else (none)) else (if x363001_2.length < 140737488355328 then (spec_l2Two.l0 k2 a2 t354 t355 (wrap64 (x15_2 + 1)) t338 t341 t346 t349 x363000_2 (x363001_2 ++ [((Go.bits .and .i64 (shr .i64 a2 (wrap64 ((wrap64 (2 * t366)) + t368))) 1) == 1)])) else (none))) else (none)) = some (r1, r2) := H
              have A39 := Aside0.mk A390
              clear A390
              obtain ⟨ji40, hji40⟩ : ∃ j_ : Int, (wrap64 ((wrap64 (2 * t366)) + t368)) = j_ := ⟨_, rfl⟩
              replace H : (if 0 ≤ (ji40) then (if x15_2 < t354 then (if x363000_2.length < 140737488355328 then (spec_l2Two.l0 k2 a2 t354 t355 (wrap64 (x15_2 + 1)) t338 t341 t346 t349 (x363000_2 ++ [((Go.bits .and .i64 (shr .i64 a2 (ji40)) 1) == 1)]) x363001_2) else (none)) else (if x363001_2.length < 140737488355328 then (spec_l2Two.l0 k2 a2 t354 t355 (wrap64 (x15_2 + 1)) t338 t341 t346 t349 x363000_2 (x363001_2 ++ [((Go.bits .and .i64 (shr .i64 a2 (ji40)) 1) == 1)])) else (none))) else (none)) = some (r1, r2) := by first | (rw [hji40] at H; exact H) | (simp only [hji40] at H ⊢; exact H)
              (try rw [hji40] at A36)
              (try rw [hji40] at A37)
              (try rw [hji40] at A38)
              (try rw [hji40] at A39)
              have hji40w : (IntKind.i64.wrap ((wrap64 (2 * t366)) + t368)) = ji40 := (i64_w _).trans hji40
              by_cases c41 : 0 ≤ (ji40)
              · rw [if_pos c41] at H
                have c41b0 := eq_true c41
                have c41b1 : decide (0 ≤ (ji40)) = true := decide_eq_true c41
                clear c41
                obtain ⟨ji42, hji42⟩ : ∃ j_ : Int, (shr .i64 a2 (ji40)) = j_ := ⟨_, rfl⟩
                replace H : (if x15_2 < t354 then (if x363000_2.length < 140737488355328 then (spec_l2Two.l0 k2 a2 t354 t355 (wrap64 (x15_2 + 1)) t338 t341 t346 t349 (x363000_2 ++ [((Go.bits .and .i64 (ji42) 1) == 1)]) x363001_2) else (none)) else (if x363001_2.length < 140737488355328 then (spec_l2Two.l0 k2 a2 t354 t355 (wrap64 (x15_2 + 1)) t338 t341 t346 t349 x363000_2 (x363001_2 ++ [((Go.bits .and .i64 (ji42) 1) == 1)])) else (none))) = some (r1, r2) := by first | (rw [hji42] at H; exact H) | (simp only [hji42] at H ⊢; exact H)
                (try rw [hji42] at A36)
                (try rw [hji42] at A37)
                (try rw [hji42] at A38)
                (try rw [hji42] at A39)
                have hji42_ : (a2 / 2 ^ min (ji40).toNat 64) = ji42 := hji42
                have hji42z : (ji40) ≤ 64 → (a2 / 2 ^ (ji40).toNat) = ji42 := shr_small hji42
                by_cases c43 : x15_2 < t354
                · rw [if_pos c43] at H
                  have c43b0 : decide (x15_2 < t354) = true := decide_eq_true c43
                  clear c43
                  by_cases c44 : x363000_2.length < 140737488355328
                  · rw [if_pos c44] at H
                    have LMc44 := Aside0.mk c44
                    clear c44
                    obtain ⟨y369, hy369⟩ : ∃ y_ : List Bool, y_ = (x363000_2 ++ [((Go.bits .and .i64 (ji42) 1) == 1)]) := ⟨_, rfl⟩
                    replace H : (spec_l2Two.l0 k2 a2 t354 t355 (wrap64 (x15_2 + 1)) t338 t341 t346 t349 y369 x363001_2) = some (r1, r2) := by first | (rw [hy369]; with_reducible exact H) | (have H2_ := (Option.bind_some _ _).symm.trans H; rw [hy369]; with_reducible exact H2_) | (have H2_ := (Option.bind_some _ _).symm.trans H; with_reducible exact H2_) | with_reducible exact H | (rw [hy369]; exact H) | exact H
                    have Ny369 := Aside0.mk hy369
                    clear hy369
                    have H' := Aside0.mk H
                    clear H
                    try go_wp2
                    have n0_ := Aside0.mk (Kd.R_drew HO_346000.out)
                    have n1_ := Aside0.mk (Kd.R_drew HO_346001.out)
                    have n2_ := Aside0.mk (Kd.R_drew HO_354000.out)
                    have n3_ := Aside0.mk (Kd.R_drew HO_354001.out)
                    have n4_ := Aside0.mk (Kd.R_drew HO_363000.out)
                    have n5_ := Aside0.mk (Kd.R_drew HO_363001.out)
                    have n6_ := Aside0.mk (blk_drew BK345.out)
                    have n7_ := Aside0.mk (blk_drew BK353.out)
                    have n8_ := Aside0.mk (blk_drew BK362.out)
                    have n9_ := Aside0.mk (below_drew1 HB.out)
                    clear HO_346000
                    clear HO_346001
                    clear HO_354000
                    clear HO_354001
                    clear HO_363000
                    clear HO_363001
                    clear BK345
                    clear BK353
                    clear BK362
                    clear HB
                    have HO_346000 := n0_
                    have HO_346001 := n1_
                    have HO_354000 := n2_
                    have HO_354001 := n3_
                    have HO_363000 := n4_
                    have HO_363001 := n5_
                    have BK345 := n6_
                    have BK353 := n7_
                    have BK362 := n8_
                    have HB := n9_
                    clear n0_ n1_ n2_ n3_ n4_ n5_ n6_ n7_ n8_ n9_
                    refine start_ (n := 15) (S := fun w' => w'.cell? ⟨gb345, 0, none⟩ = some (.slice Ao9 t338.length co9) ∧ w'.cell? ⟨gb345, 1, none⟩ = some (.slice Ao11 t341.length co11) ∧ w'.cell? ⟨gb353, 0, none⟩ = some (.slice Ao14 t346.length co14) ∧ w'.cell? ⟨gb353, 1, none⟩ = some (.slice Ao17 t349.length co17)) (ds := []) #[false, false, false, false, false, false, false, false, false, false, false, false, false, false, false] (by kernel_rfl) rfl rfl ⟨(blk_cell BK345.out 0).trans rfl, (blk_cell BK345.out 1).trans rfl, (blk_cell BK353.out 0).trans rfl, (blk_cell BK353.out 1).trans rfl⟩ (fun hHeld => ?_); refine with_tabW spec_l2Two.tab10 spec_l2Two.bits10 (fun HT_ HW_ => ?_)
                    generalize wr.drew = w45 at HO_346000 HO_346001 HO_354000 HO_354001 HO_363000 HO_363001 BK345 BK353 BK362 HB hHeld ⊢
                    refine pure_ (i := 0) (N := some 49) (v := ?_) (a' := ?_) #[true, false, false, false, false, false, false, false, false, false, false, false, false, false, false] rfl rfl (any_of HT_.out (by kernel_rfl)) (fun _ _ _ h => h) (Or.inl ⟨by rfl, ?_⟩) ?_ ?_
                    rotate_left
                    · intro w'
                      go_simp
                      with_reducible rfl
                    rotate_left
                    · simp only [Act.put, List.setIfInBounds_toArray, List.set_cons_zero, List.set_cons_succ, i64_w, i32_w]
                      rfl
                    refine pure_ (i := 2) (N := some 51) (v := ?_) (a' := ?_) #[true, false, true, false, false, false, false, false, false, false, false, false, false, false, false] rfl rfl (any_of HT_.out (by kernel_rfl)) (fun _ _ _ h => h) (Or.inl ⟨by rfl, ?_⟩) ?_ ?_
                    rotate_left
                    · intro w'
                      go_simp
                      with_reducible rfl
                    rotate_left
                    · simp only [Act.put, List.setIfInBounds_toArray, List.set_cons_zero, List.set_cons_succ, i64_w, i32_w]
                      rfl
                    refine pure_ (i := 7) (N := some 56) (v := ?_) (a' := ?_) #[true, false, true, false, false, false, false, true, false, false, false, false, false, false, false] rfl rfl (any_of HT_.out (by kernel_rfl)) (fun _ _ _ h => h) (Or.inl ⟨by rfl, ?_⟩) ?_ ?_
                    rotate_left
                    · intro w'
                      go_simp
                      with_reducible rfl
                    rotate_left
                    · simp only [Act.put, List.setIfInBounds_toArray, List.set_cons_zero, List.set_cons_succ, i64_w, i32_w]
                      rfl
                    refine take_ (i := 1) (N := some 50) (v := ?_) (a' := ?_) #[true, true, true, false, false, false, false, true, false, false, false, false, false, false, false] rfl rfl (take_ofW HT_.out HW_.out (by kernel_rfl)) (fun _ _ _ h => h) (Or.inl ⟨by rfl, ?_⟩) hHeld ?_ ?_
                    rotate_left
                    · rintro w' ⟨s0, s1, s2, s3⟩
                      go_simp
                      with_reducible rfl
                    rotate_left
                    · simp only [Act.put, List.setIfInBounds_toArray, List.set_cons_zero, List.set_cons_succ, i64_w, i32_w]
                      rfl
                    refine take_ (i := 6) (N := some 55) (v := ?_) (a' := ?_) #[true, true, true, false, false, false, true, true, false, false, false, false, false, false, false] rfl rfl (take_ofW HT_.out HW_.out (by kernel_rfl)) (fun _ _ _ h => h) (Or.inl ⟨by rfl, ?_⟩) hHeld ?_ ?_
                    rotate_left
                    · rintro w' ⟨s0, s1, s2, s3⟩
                      go_simp
                      with_reducible rfl
                    rotate_left
                    · simp only [Act.put, List.setIfInBounds_toArray, List.set_cons_zero, List.set_cons_succ, i64_w, i32_w]
                      rfl
                    refine one_ (i := 3) (N := some 52) #[true, true, true, true, false, false, true, true, false, false, false, false, false, false, false] rfl rfl (one_of HT_.out (by kernel_rfl)) (by decide) (fun K hK => ?_)
                    refine goes_ Try.func26 (by kernel_rfl) rfl #[.agg #[.slice Ao9 t338.length co9, .slice Ao11 t341.length co11], .int .i64 x15_2] (by rfl) rfl rfl (by (try simp only [List.map_toArray, List.map_cons, List.map_nil]); first | done | rfl | (simp only [List.length_drop, List.length_take]; rfl)) ?_
                    with_reducible refine (spec_l1Has.calls _ _ t338 _ _ t341 x15_2 t365 _ ?side1 ?side2 ?side3 ?side4 A36.out).mono ?_
                    (case side1 => repeat (first | exact (Kd.R_reads' HO_346000.out).2.2 | (with_reducible refine Kd.C_alloc ?_ _) | (with_reducible refine Kd.C_drewN ?_ _) | (with_reducible refine Kd.C_drew ?_)))
                    (case side2 => exact (Kd.R_reads' HO_346000.out).2.1)
                    (case side3 => repeat (first | exact (Kd.R_reads' HO_346001.out).2.2 | (with_reducible refine Kd.C_alloc ?_ _) | (with_reducible refine Kd.C_drewN ?_ _) | (with_reducible refine Kd.C_drew ?_)))
                    (case side4 => exact (Kd.R_reads' HO_346001.out).2.1)
                    rintro e w46 ⟨rfl, hb⟩
                    refine ⟨_, rfl, ?_⟩
                    have n0_ := Aside0.mk (Kd.R_below (by (with_reducible repeat (first | apply Kd.R_alloc | apply Kd.R_drewN | apply Kd.R_drew)); exact HO_346000.out) hb)
                    have n1_ := Aside0.mk (Kd.R_below (by (with_reducible repeat (first | apply Kd.R_alloc | apply Kd.R_drewN | apply Kd.R_drew)); exact HO_346001.out) hb)
                    have n2_ := Aside0.mk (Kd.R_below (by (with_reducible repeat (first | apply Kd.R_alloc | apply Kd.R_drewN | apply Kd.R_drew)); exact HO_354000.out) hb)
                    have n3_ := Aside0.mk (Kd.R_below (by (with_reducible repeat (first | apply Kd.R_alloc | apply Kd.R_drewN | apply Kd.R_drew)); exact HO_354001.out) hb)
                    have n4_ := Aside0.mk (Kd.R_below (by (with_reducible repeat (first | apply Kd.R_alloc | apply Kd.R_drewN | apply Kd.R_drew)); exact HO_363000.out) hb)
                    have n5_ := Aside0.mk (Kd.R_below (by (with_reducible repeat (first | apply Kd.R_alloc | apply Kd.R_drewN | apply Kd.R_drew)); exact HO_363001.out) hb)
                    have n6_ := Aside0.mk (blk_below (g := gb345) (o := .cells #[.slice Ao9 t338.length co9, .slice Ao11 t341.length co11] 36 (0, 0)) (by (with_reducible repeat (first | refine blk_drewN ?_ _ | refine blk_drew ?_ | refine blk_alloc ?_ _)); exact BK345.out) hb)
                    have n7_ := Aside0.mk (blk_below (g := gb353) (o := .cells #[.slice Ao14 t346.length co14, .slice Ao17 t349.length co17] 36 (0, 0)) (by (with_reducible repeat (first | refine blk_drewN ?_ _ | refine blk_drew ?_ | refine blk_alloc ?_ _)); exact BK353.out) hb)
                    have n8_ := Aside0.mk (blk_below (g := gb362) (o := .cells #[u363000, u363001] 36 (0, 0)) (by (with_reducible repeat (first | refine blk_drewN ?_ _ | refine blk_drew ?_ | refine blk_alloc ?_ _)); exact BK362.out) hb)
                    have n9_ := Aside0.mk (below_step (by repeat (first | (with_reducible first | exact HB.out | apply below_alloc | apply pw_below_drewN | apply below_drew1 | refine below_set ?_ GE345.out | refine below_set ?_ GE353.out | refine below_set ?_ GE362.out) | exact HB.out)) hb)
                    clear HO_346000
                    clear HO_346001
                    clear HO_354000
                    clear HO_354001
                    clear HO_363000
                    clear HO_363001
                    clear BK345
                    clear BK353
                    clear BK362
                    clear HB
                    have HO_346000 := n0_
                    have HO_346001 := n1_
                    have HO_354000 := n2_
                    have HO_354001 := n3_
                    have HO_363000 := n4_
                    have HO_363001 := n5_
                    have BK345 := n6_
                    have BK353 := n7_
                    have BK362 := n8_
                    have HB := n9_
                    clear n0_ n1_ n2_ n3_ n4_ n5_ n6_ n7_ n8_ n9_
                    (try clear hb)
                    (try clear hb2)
                    (try clear hk)
                    (try clear hi)
                    refine hK.out _ _ ⟨(blk_cell BK345.out 0).trans rfl, (blk_cell BK345.out 1).trans rfl, (blk_cell BK353.out 0).trans rfl, (blk_cell BK353.out 1).trans rfl⟩ (fun hHeld => ?_)
                    clear hK K
                    refine norm_ (a' := ?_) ?_ ?_
                    rotate_left
                    · show Act.put _ (some 52) _ = _
                      simp only [Act.put, List.setIfInBounds_toArray, List.set_cons_zero, List.set_cons_succ, i64_w, i32_w]
                      rfl
                    refine one_ (i := 4) (N := some 53) #[true, true, true, true, true, false, true, true, false, false, false, false, false, false, false] rfl rfl (one_of HT_.out (by kernel_rfl)) (by decide) (fun K hK => ?_)
                    refine goes_ Try.func53 (by kernel_rfl) rfl #[.bool t365] (by rfl) rfl rfl (by (try simp only [List.map_toArray, List.map_cons, List.map_nil]); first | done | rfl | (simp only [List.length_drop, List.length_take]; rfl)) ?_
                    with_reducible refine (spec_l1Bit.calls t365 t366 _ A37.out).mono ?_
                    rintro e w' ⟨rfl, ⟨nd, rfl⟩⟩
                    refine ⟨_, rfl, ?_⟩
                    refine hK.out _ _ ⟨(blk_cell BK345.out 0).trans rfl, (blk_cell BK345.out 1).trans rfl, (blk_cell BK353.out 0).trans rfl, (blk_cell BK353.out 1).trans rfl⟩ (fun hHeld => ?_)
                    clear hK K
                    refine norm_ (a' := ?_) ?_ ?_
                    rotate_left
                    · show Act.put _ (some 53) _ = _
                      simp only [Act.put, List.setIfInBounds_toArray, List.set_cons_zero, List.set_cons_succ, i64_w, i32_w]
                      rfl
                    refine pure_ (i := 5) (N := some 54) (v := ?_) (a' := ?_) #[true, true, true, true, true, true, true, true, false, false, false, false, false, false, false] rfl rfl (any_of HT_.out (by kernel_rfl)) (fun _ _ _ h => h) (Or.inl ⟨by rfl, ?_⟩) ?_ ?_
                    rotate_left
                    · intro w'
                      go_simp
                      with_reducible rfl
                    rotate_left
                    · simp only [Act.put, List.setIfInBounds_toArray, List.set_cons_zero, List.set_cons_succ, i64_w, i32_w]
                      rfl
                    refine one_ (i := 8) (N := some 57) #[true, true, true, true, true, true, true, true, true, false, false, false, false, false, false] rfl rfl (one_of HT_.out (by kernel_rfl)) (by decide) (fun K hK => ?_)
                    refine goes_ Try.func26 (by kernel_rfl) rfl #[.agg #[.slice Ao14 t346.length co14, .slice Ao17 t349.length co17], .int .i64 x15_2] (by rfl) rfl rfl (by (try simp only [List.map_toArray, List.map_cons, List.map_nil]); first | done | rfl | (simp only [List.length_drop, List.length_take]; rfl)) ?_
                    with_reducible refine (spec_l1Has.calls _ _ t346 _ _ t349 x15_2 t367 _ ?side1 ?side2 ?side3 ?side4 A38.out).mono ?_
                    (case side1 => repeat (first | exact (Kd.R_reads' HO_354000.out).2.2 | (with_reducible refine Kd.C_alloc ?_ _) | (with_reducible refine Kd.C_drewN ?_ _) | (with_reducible refine Kd.C_drew ?_)))
                    (case side2 => exact (Kd.R_reads' HO_354000.out).2.1)
                    (case side3 => repeat (first | exact (Kd.R_reads' HO_354001.out).2.2 | (with_reducible refine Kd.C_alloc ?_ _) | (with_reducible refine Kd.C_drewN ?_ _) | (with_reducible refine Kd.C_drew ?_)))
                    (case side4 => exact (Kd.R_reads' HO_354001.out).2.1)
                    rintro e w47 ⟨rfl, hb⟩
                    refine ⟨_, rfl, ?_⟩
                    have n0_ := Aside0.mk (Kd.R_below (by (with_reducible repeat (first | apply Kd.R_alloc | apply Kd.R_drewN | apply Kd.R_drew)); exact HO_346000.out) hb)
                    have n1_ := Aside0.mk (Kd.R_below (by (with_reducible repeat (first | apply Kd.R_alloc | apply Kd.R_drewN | apply Kd.R_drew)); exact HO_346001.out) hb)
                    have n2_ := Aside0.mk (Kd.R_below (by (with_reducible repeat (first | apply Kd.R_alloc | apply Kd.R_drewN | apply Kd.R_drew)); exact HO_354000.out) hb)
                    have n3_ := Aside0.mk (Kd.R_below (by (with_reducible repeat (first | apply Kd.R_alloc | apply Kd.R_drewN | apply Kd.R_drew)); exact HO_354001.out) hb)
                    have n4_ := Aside0.mk (Kd.R_below (by (with_reducible repeat (first | apply Kd.R_alloc | apply Kd.R_drewN | apply Kd.R_drew)); exact HO_363000.out) hb)
                    have n5_ := Aside0.mk (Kd.R_below (by (with_reducible repeat (first | apply Kd.R_alloc | apply Kd.R_drewN | apply Kd.R_drew)); exact HO_363001.out) hb)
                    have n6_ := Aside0.mk (blk_below (g := gb345) (o := .cells #[.slice Ao9 t338.length co9, .slice Ao11 t341.length co11] 36 (0, 0)) (by (with_reducible repeat (first | refine blk_drewN ?_ _ | refine blk_drew ?_ | refine blk_alloc ?_ _)); exact BK345.out) hb)
                    have n7_ := Aside0.mk (blk_below (g := gb353) (o := .cells #[.slice Ao14 t346.length co14, .slice Ao17 t349.length co17] 36 (0, 0)) (by (with_reducible repeat (first | refine blk_drewN ?_ _ | refine blk_drew ?_ | refine blk_alloc ?_ _)); exact BK353.out) hb)
                    have n8_ := Aside0.mk (blk_below (g := gb362) (o := .cells #[u363000, u363001] 36 (0, 0)) (by (with_reducible repeat (first | refine blk_drewN ?_ _ | refine blk_drew ?_ | refine blk_alloc ?_ _)); exact BK362.out) hb)
                    have n9_ := Aside0.mk (below_step (by repeat (first | (with_reducible first | exact HB.out | apply below_alloc | apply pw_below_drewN | apply below_drew1 | refine below_set ?_ GE345.out | refine below_set ?_ GE353.out | refine below_set ?_ GE362.out) | exact HB.out)) hb)
                    clear HO_346000
                    clear HO_346001
                    clear HO_354000
                    clear HO_354001
                    clear HO_363000
                    clear HO_363001
                    clear BK345
                    clear BK353
                    clear BK362
                    clear HB
                    have HO_346000 := n0_
                    have HO_346001 := n1_
                    have HO_354000 := n2_
                    have HO_354001 := n3_
                    have HO_363000 := n4_
                    have HO_363001 := n5_
                    have BK345 := n6_
                    have BK353 := n7_
                    have BK362 := n8_
                    have HB := n9_
                    clear n0_ n1_ n2_ n3_ n4_ n5_ n6_ n7_ n8_ n9_
                    (try clear hb)
                    (try clear hb2)
                    (try clear hk)
                    (try clear hi)
                    refine hK.out _ _ ⟨(blk_cell BK345.out 0).trans rfl, (blk_cell BK345.out 1).trans rfl, (blk_cell BK353.out 0).trans rfl, (blk_cell BK353.out 1).trans rfl⟩ (fun hHeld => ?_)
                    clear hK K
                    refine norm_ (a' := ?_) ?_ ?_
                    rotate_left
                    · show Act.put _ (some 57) _ = _
                      simp only [Act.put, List.setIfInBounds_toArray, List.set_cons_zero, List.set_cons_succ, i64_w, i32_w]
                      rfl
                    refine one_ (i := 9) (N := some 58) #[true, true, true, true, true, true, true, true, true, true, false, false, false, false, false] rfl rfl (one_of HT_.out (by kernel_rfl)) (by decide) (fun K hK => ?_)
                    refine goes_ Try.func53 (by kernel_rfl) rfl #[.bool t367] (by rfl) rfl rfl (by (try simp only [List.map_toArray, List.map_cons, List.map_nil]); first | done | rfl | (simp only [List.length_drop, List.length_take]; rfl)) ?_
                    with_reducible refine (spec_l1Bit.calls t367 t368 _ A39.out).mono ?_
                    rintro e w' ⟨rfl, ⟨nd, rfl⟩⟩
                    refine ⟨_, rfl, ?_⟩
                    refine hK.out _ _ ⟨(blk_cell BK345.out 0).trans rfl, (blk_cell BK345.out 1).trans rfl, (blk_cell BK353.out 0).trans rfl, (blk_cell BK353.out 1).trans rfl⟩ (fun hHeld => ?_)
                    clear hK K
                    refine norm_ (a' := ?_) ?_ ?_
                    rotate_left
                    · show Act.put _ (some 58) _ = _
                      simp only [Act.put, List.setIfInBounds_toArray, List.set_cons_zero, List.set_cons_succ, i64_w, i32_w]
                      rfl
                    refine pure_ (i := 10) (N := some 59) (v := ?_) (a' := ?_) #[true, true, true, true, true, true, true, true, true, true, true, false, false, false, false] rfl rfl (any_of HT_.out (by kernel_rfl)) (fun _ _ _ h => h) (Or.inl ⟨by rfl, ?_⟩) ?_ ?_
                    rotate_left
                    · intro w'
                      go_simp
                      with_reducible rfl
                    rotate_left
                    · simp only [Act.put, List.setIfInBounds_toArray, List.set_cons_zero, List.set_cons_succ, i64_w, i32_w]
                      rfl
                    refine pure_ (i := 11) (N := some 60) (v := ?_) (a' := ?_) #[true, true, true, true, true, true, true, true, true, true, true, true, false, false, false] rfl rfl (any_of HT_.out (by kernel_rfl)) (fun _ _ _ h => h) (Or.inl ⟨by rfl, ?_⟩) ?_ ?_
                    rotate_left
                    · intro w'
                      go_simp
                      with_reducible rfl
                    rotate_left
                    · simp only [Act.put, List.setIfInBounds_toArray, List.set_cons_zero, List.set_cons_succ, i64_w, i32_w]
                      rfl
                    refine pure_ (i := 12) (N := some 61) (v := ?_) (a' := ?_) #[true, true, true, true, true, true, true, true, true, true, true, true, true, false, false] rfl rfl (any_of HT_.out (by kernel_rfl)) (fun _ _ _ h => h) (Or.inl ⟨by rfl, ?_⟩) ?_ ?_
                    rotate_left
                    · intro w'
                      go_simp
                      with_reducible rfl
                    rotate_left
                    · simp only [Act.put, List.setIfInBounds_toArray, List.set_cons_zero, List.set_cons_succ, i64_w, i32_w]
                      rfl
                    refine pure_ (i := 13) (N := some 62) (v := ?_) (a' := ?_) #[true, true, true, true, true, true, true, true, true, true, true, true, true, true, false] rfl rfl (any_of HT_.out (by kernel_rfl)) (fun _ _ _ h => h) (Or.inl ⟨by rfl, ?_⟩) ?_ ?_
                    rotate_left
                    · intro w'
                      go_simp
                      with_reducible rfl
                    rotate_left
                    · simp only [Act.put, List.setIfInBounds_toArray, List.set_cons_zero, List.set_cons_succ, i64_w, i32_w]
                      rfl
                    refine pure_ (i := 14) (N := some 16) (v := ?_) (a' := ?_) #[true, true, true, true, true, true, true, true, true, true, true, true, true, true, true] rfl rfl (any_of HT_.out (by kernel_rfl)) (fun _ _ _ h => h) (Or.inl ⟨by rfl, ?_⟩) ?_ ?_
                    rotate_left
                    · intro w'
                      go_simp
                      with_reducible rfl
                    rotate_left
                    · simp only [Act.put, List.setIfInBounds_toArray, List.set_cons_zero, List.set_cons_succ, i64_w, i32_w]
                      rfl
                    refine done_ (done_of HT_.out (by kernel_rfl)) ?_
                    have hnb48 := NB362_345.out
                    have hnc48 := NB345_362.out
                    have hnb49 := NB362_353.out
                    have hnc49 := NB353_362.out
                    have hcz50_0 : w47.cell? ⟨gb362, 0, none⟩ = some (u363000) := (blk_cell BK362.out 0).trans rfl
                    have hcz50_1 : w47.cell? ⟨gb362, 1, none⟩ = some (u363001) := (blk_cell BK362.out 1).trans rfl
                    have hfz50_0 := blk_frozen BK362.out 0
                    have hfz50_1 := blk_frozen BK362.out 1
                    try go_wp2_with (first | ((with_reducible refine gate_builtin (b := .append) (xs := #[.tmp 67, .tmp 69]) rfl ?_); at_builtin; refine Kd.R_append Kd.bool (w0 := w) w.heap.size rfl (.tmp 67) (.tmp 69) 34 4 (.bool false) 1 rfl Try.underlying34 info4 rfl (by decide) (by omega) u363000 x363000_2 ((Go.bits .and .i64 (ji42) 1) == 1) [.bool ((Go.bits .and .i64 (ji42) 1) == 1)] (fun k_ => some k_ ≠ (.slice Ao9 t338.length co9 : Value).ownBlock ∧ some k_ ≠ (.slice Ao11 t341.length co11 : Value).ownBlock ∧ some k_ ≠ (.slice Ao14 t346.length co14 : Value).ownBlock ∧ some k_ ≠ (.slice Ao17 t349.length co17 : Value).ownBlock ∧ some k_ ≠ (u363001 : Value).ownBlock) (fun _ => False) rfl rfl ?aP (fun _ hk => hk.elim) ?aF ?aO ?aB ?aS ?aL ?_; (case aP => exact rfl); (case aB => exact (by repeat (first | (with_reducible first | exact HB.out | apply below_alloc | apply pw_below_drewN | apply below_drew1 | refine below_set ?_ GE345.out | refine below_set ?_ GE353.out | refine below_set ?_ GE362.out) | exact HB.out))); (case aF => exact (fun k_ hk => ⟨Kd.fresh' (Kd.R_lt (by (with_reducible repeat (first | apply Kd.R_alloc | apply Kd.R_drewN | apply Kd.R_drew)); exact HO_346000.out)) k_ hk, Kd.fresh' (Kd.R_lt (by (with_reducible repeat (first | apply Kd.R_alloc | apply Kd.R_drewN | apply Kd.R_drew)); exact HO_346001.out)) k_ hk, Kd.fresh' (Kd.R_lt (by (with_reducible repeat (first | apply Kd.R_alloc | apply Kd.R_drewN | apply Kd.R_drew)); exact HO_354000.out)) k_ hk, Kd.fresh' (Kd.R_lt (by (with_reducible repeat (first | apply Kd.R_alloc | apply Kd.R_drewN | apply Kd.R_drew)); exact HO_354001.out)) k_ hk, Kd.fresh' (Kd.R_lt (by (with_reducible repeat (first | apply Kd.R_alloc | apply Kd.R_drewN | apply Kd.R_drew)); exact HO_363001.out)) k_ hk⟩)); (case aO => exact (by (with_reducible repeat (first | apply Kd.R_alloc | apply Kd.R_drewN | apply Kd.R_drew)); exact HO_363000.out)); (case aS => exact (below_size (by repeat (first | (with_reducible first | exact HB.out | apply below_alloc | apply pw_below_drewN | apply below_drew1 | refine below_set ?_ GE345.out | refine below_set ?_ GE353.out | refine below_set ?_ GE362.out) | exact HB.out)))); (case aL => have := LMc44.out; omega); intro v370 w51 ho hb hg hat; rw [← Ny369.out] at ho; have n0_ := Aside0.mk (Kd.R_after (ok := (fun k_ => some k_ ≠ (.slice Ao11 t341.length co11 : Value).ownBlock ∧ some k_ ≠ (.slice Ao14 t346.length co14 : Value).ownBlock ∧ some k_ ≠ (.slice Ao17 t349.length co17 : Value).ownBlock ∧ some k_ ≠ (u363001 : Value).ownBlock)) (by (with_reducible repeat (first | apply Kd.R_alloc | apply Kd.R_drewN | apply Kd.R_drew)); exact Kd.R_mono HO_346000.out (fun _ hk => ⟨⟨hk.1, ⟨hk.2.1, ⟨hk.2.2.1, hk.2.2.2.2⟩⟩⟩, hk.2.2.2.1⟩)) hg hat); have n1_ := Aside0.mk (Kd.R_after (ok := (fun k_ => some k_ ≠ (.slice Ao9 t338.length co9 : Value).ownBlock ∧ some k_ ≠ (.slice Ao14 t346.length co14 : Value).ownBlock ∧ some k_ ≠ (.slice Ao17 t349.length co17 : Value).ownBlock ∧ some k_ ≠ (u363001 : Value).ownBlock)) (by (with_reducible repeat (first | apply Kd.R_alloc | apply Kd.R_drewN | apply Kd.R_drew)); exact Kd.R_mono HO_346001.out (fun _ hk => ⟨⟨hk.1, ⟨hk.2.1, ⟨hk.2.2.1, hk.2.2.2.2⟩⟩⟩, hk.2.2.2.1⟩)) hg hat); have n2_ := Aside0.mk (Kd.R_after (ok := (fun k_ => some k_ ≠ (.slice Ao9 t338.length co9 : Value).ownBlock ∧ some k_ ≠ (.slice Ao11 t341.length co11 : Value).ownBlock ∧ some k_ ≠ (.slice Ao17 t349.length co17 : Value).ownBlock ∧ some k_ ≠ (u363001 : Value).ownBlock)) (by (with_reducible repeat (first | apply Kd.R_alloc | apply Kd.R_drewN | apply Kd.R_drew)); exact Kd.R_mono HO_354000.out (fun _ hk => ⟨⟨hk.1, ⟨hk.2.1, ⟨hk.2.2.1, hk.2.2.2.2⟩⟩⟩, hk.2.2.2.1⟩)) hg hat); have n3_ := Aside0.mk (Kd.R_after (ok := (fun k_ => some k_ ≠ (.slice Ao9 t338.length co9 : Value).ownBlock ∧ some k_ ≠ (.slice Ao11 t341.length co11 : Value).ownBlock ∧ some k_ ≠ (.slice Ao14 t346.length co14 : Value).ownBlock ∧ some k_ ≠ (u363001 : Value).ownBlock)) (by (with_reducible repeat (first | apply Kd.R_alloc | apply Kd.R_drewN | apply Kd.R_drew)); exact Kd.R_mono HO_354001.out (fun _ hk => ⟨⟨hk.1, ⟨hk.2.1, ⟨hk.2.2.1, hk.2.2.2.2⟩⟩⟩, hk.2.2.2.1⟩)) hg hat); have n4_ := Aside0.mk (Kd.R_after (ok := (fun k_ => some k_ ≠ (.slice Ao9 t338.length co9 : Value).ownBlock ∧ some k_ ≠ (.slice Ao11 t341.length co11 : Value).ownBlock ∧ some k_ ≠ (.slice Ao14 t346.length co14 : Value).ownBlock ∧ some k_ ≠ (.slice Ao17 t349.length co17 : Value).ownBlock)) (by (with_reducible repeat (first | apply Kd.R_alloc | apply Kd.R_drewN | apply Kd.R_drew)); exact Kd.R_mono HO_363001.out (fun _ hk => ⟨⟨hk.1, ⟨hk.2.1, ⟨hk.2.2.1, hk.2.2.2.1⟩⟩⟩, hk.2.2.2.2⟩)) hg hat); have n5_ := Aside0.mk (blk_grown (g := gb345) (o := .cells #[.slice Ao9 t338.length co9, .slice Ao11 t341.length co11] 36 (0, 0)) (by (with_reducible repeat (first | refine blk_drewN ?_ _ | refine blk_drew ?_ | refine blk_alloc ?_ _)); exact BK345.out) hg (Kd.R_ne HO_363000.out BK345.out (by decide))); have n6_ := Aside0.mk (blk_grown (g := gb353) (o := .cells #[.slice Ao14 t346.length co14, .slice Ao17 t349.length co17] 36 (0, 0)) (by (with_reducible repeat (first | refine blk_drewN ?_ _ | refine blk_drew ?_ | refine blk_alloc ?_ _)); exact BK353.out) hg (Kd.R_ne HO_363000.out BK353.out (by decide))); have n7_ := Aside0.mk (blk_grown (g := gb362) (o := .cells #[u363000, u363001] 36 (0, 0)) (by (with_reducible repeat (first | refine blk_drewN ?_ _ | refine blk_drew ?_ | refine blk_alloc ?_ _)); exact BK362.out) hg (Kd.R_ne HO_363000.out BK362.out (by decide))); have n8_ := Aside0.mk (hb); have n9_ := Aside0.mk (ho); clear HO_346000; clear HO_346001; clear HO_354000; clear HO_354001; clear HO_363001; clear BK345; clear BK353; clear BK362; clear HB; clear HO_363000; have HO_346000 := n0_; have HO_346001 := n1_; have HO_354000 := n2_; have HO_354001 := n3_; have HO_363001 := n4_; have BK345 := n5_; have BK353 := n6_; have BK362 := n7_; have HB := n8_; have HO371 := n9_; clear n0_ n1_ n2_ n3_ n4_ n5_ n6_ n7_ n8_ n9_; clear ho hb hg hat; obtain ⟨Ao52, co52, eo52⟩ := Kd.R_slice HO371.out; subst eo52; have hcz53_0 : w51.cell? ⟨gb362, 0, none⟩ = some (u363000) := (blk_cell BK362.out 0).trans rfl; have hcz53_1 : w51.cell? ⟨gb362, 1, none⟩ = some (u363001) := (blk_cell BK362.out 1).trans rfl; have hfz53_0 := blk_frozen BK362.out 0; have hfz53_1 := blk_frozen BK362.out 1))
                    go_roundg k2
                    case measure => have := HJ5.out; have := HK2.out; omega
                    case rel => exact ⟨(wrap64 (x15_2 + 1)), (y369), (x363001_2), (.slice Ao52 y369.length co52), (u363001), (by first | rfl | (simp; done) | (simp [*]; done) | (simp [Int.tmod_eq_emod_of_nonneg]; done)), H', ⟨by have := HJ5.out; have := HK2.out; omega⟩, ⟨by (with_reducible repeat (first | apply Kd.R_alloc | apply Kd.R_drewN | apply Kd.R_drew)); exact Kd.R_mono (Kd.R_far (p := ⟨gb362, 0, none⟩) (Kd.R_types HO_346000.out BK362.out (by decide)) (fun _ hk => hk.2) (.slice Ao52 y369.length co52)) (fun _ hk => ⟨hk.1.1.1, ⟨hk.1.1.2.1, ⟨hk.1.1.2.2.1, ⟨hk.1.2, hk.1.1.2.2.2⟩⟩⟩⟩)⟩, ⟨by (with_reducible repeat (first | apply Kd.R_alloc | apply Kd.R_drewN | apply Kd.R_drew)); exact Kd.R_mono (Kd.R_far (p := ⟨gb362, 0, none⟩) (Kd.R_types HO_346001.out BK362.out (by decide)) (fun _ hk => hk.2) (.slice Ao52 y369.length co52)) (fun _ hk => ⟨hk.1.1.1, ⟨hk.1.1.2.1, ⟨hk.1.1.2.2.1, ⟨hk.1.2, hk.1.1.2.2.2⟩⟩⟩⟩)⟩, ⟨by (with_reducible repeat (first | apply Kd.R_alloc | apply Kd.R_drewN | apply Kd.R_drew)); exact Kd.R_mono (Kd.R_far (p := ⟨gb362, 0, none⟩) (Kd.R_types HO_354000.out BK362.out (by decide)) (fun _ hk => hk.2) (.slice Ao52 y369.length co52)) (fun _ hk => ⟨hk.1.1.1, ⟨hk.1.1.2.1, ⟨hk.1.1.2.2.1, ⟨hk.1.2, hk.1.1.2.2.2⟩⟩⟩⟩)⟩, ⟨by (with_reducible repeat (first | apply Kd.R_alloc | apply Kd.R_drewN | apply Kd.R_drew)); exact Kd.R_mono (Kd.R_far (p := ⟨gb362, 0, none⟩) (Kd.R_types HO_354001.out BK362.out (by decide)) (fun _ hk => hk.2) (.slice Ao52 y369.length co52)) (fun _ hk => ⟨hk.1.1.1, ⟨hk.1.1.2.1, ⟨hk.1.1.2.2.1, ⟨hk.1.2, hk.1.1.2.2.2⟩⟩⟩⟩)⟩, ⟨by (with_reducible repeat (first | apply Kd.R_alloc | apply Kd.R_drewN | apply Kd.R_drew)); exact Kd.R_mono (Kd.R_far (p := ⟨gb362, 0, none⟩) (Kd.R_types HO371.out BK362.out (by decide)) (fun _ hk => hk.2) (.slice Ao52 y369.length co52)) (fun _ hk => ⟨hk.1.1, ⟨hk.1.2.1, ⟨hk.1.2.2.1, ⟨hk.1.2.2.2.1, hk.1.2.2.2.2⟩⟩⟩⟩)⟩, ⟨by (with_reducible repeat (first | apply Kd.R_alloc | apply Kd.R_drewN | apply Kd.R_drew)); exact Kd.R_mono (Kd.R_far (p := ⟨gb362, 0, none⟩) (Kd.R_types HO_363001.out BK362.out (by decide)) (fun _ hk => hk.2) (.slice Ao52 y369.length co52)) (fun _ hk => ⟨hk.1.1.1, ⟨hk.1.1.2.1, ⟨hk.1.1.2.2.1, ⟨hk.1.1.2.2.2, hk.1.2⟩⟩⟩⟩)⟩, ⟨by (with_reducible repeat (first | refine blk_drewN ?_ _ | refine blk_drew ?_ | refine blk_alloc ?_ _)); refine blk_far ?_ NB345_362.out _; (with_reducible repeat (first | refine blk_drewN ?_ _ | refine blk_drew ?_ | refine blk_alloc ?_ _)); exact BK345.out⟩, ⟨by (with_reducible repeat (first | refine blk_drewN ?_ _ | refine blk_drew ?_ | refine blk_alloc ?_ _)); refine blk_far ?_ NB353_362.out _; (with_reducible repeat (first | refine blk_drewN ?_ _ | refine blk_drew ?_ | refine blk_alloc ?_ _)); exact BK353.out⟩, ⟨by (with_reducible repeat (first | refine blk_drewN ?_ _ | refine blk_drew ?_ | refine blk_alloc ?_ _)); refine blk_put (cs := #[u363000, u363001]) ?_ 0 _ rfl; (with_reducible repeat (first | refine blk_drewN ?_ _ | refine blk_drew ?_ | refine blk_alloc ?_ _)); exact BK362.out⟩, ⟨by repeat (first | (with_reducible first | exact HB.out | apply below_alloc | apply pw_below_drewN | apply below_drew1 | refine below_set ?_ GE345.out | refine below_set ?_ GE353.out | refine below_set ?_ GE362.out) | exact HB.out)⟩⟩
                  · rw [if_neg c44] at H
                    exact absurd H (by simp)
                · rw [if_neg c43] at H
                  have c43b0 : decide (x15_2 < t354) = false := decide_eq_false c43
                  clear c43
                  by_cases c54 : x363001_2.length < 140737488355328
                  · rw [if_pos c54] at H
                    have LMc54 := Aside0.mk c54
                    clear c54
                    obtain ⟨y372, hy372⟩ : ∃ y_ : List Bool, y_ = (x363001_2 ++ [((Go.bits .and .i64 (ji42) 1) == 1)]) := ⟨_, rfl⟩
                    replace H : (spec_l2Two.l0 k2 a2 t354 t355 (wrap64 (x15_2 + 1)) t338 t341 t346 t349 x363000_2 y372) = some (r1, r2) := by first | (rw [hy372]; with_reducible exact H) | (have H2_ := (Option.bind_some _ _).symm.trans H; rw [hy372]; with_reducible exact H2_) | (have H2_ := (Option.bind_some _ _).symm.trans H; with_reducible exact H2_) | with_reducible exact H | (rw [hy372]; exact H) | exact H
                    have Ny372 := Aside0.mk hy372
                    clear hy372
                    have H' := Aside0.mk H
                    clear H
                    try go_wp2
                    have n0_ := Aside0.mk (Kd.R_drew HO_346000.out)
                    have n1_ := Aside0.mk (Kd.R_drew HO_346001.out)
                    have n2_ := Aside0.mk (Kd.R_drew HO_354000.out)
                    have n3_ := Aside0.mk (Kd.R_drew HO_354001.out)
                    have n4_ := Aside0.mk (Kd.R_drew HO_363000.out)
                    have n5_ := Aside0.mk (Kd.R_drew HO_363001.out)
                    have n6_ := Aside0.mk (blk_drew BK345.out)
                    have n7_ := Aside0.mk (blk_drew BK353.out)
                    have n8_ := Aside0.mk (blk_drew BK362.out)
                    have n9_ := Aside0.mk (below_drew1 HB.out)
                    clear HO_346000
                    clear HO_346001
                    clear HO_354000
                    clear HO_354001
                    clear HO_363000
                    clear HO_363001
                    clear BK345
                    clear BK353
                    clear BK362
                    clear HB
                    have HO_346000 := n0_
                    have HO_346001 := n1_
                    have HO_354000 := n2_
                    have HO_354001 := n3_
                    have HO_363000 := n4_
                    have HO_363001 := n5_
                    have BK345 := n6_
                    have BK353 := n7_
                    have BK362 := n8_
                    have HB := n9_
                    clear n0_ n1_ n2_ n3_ n4_ n5_ n6_ n7_ n8_ n9_
                    refine start_ (n := 15) (S := fun w' => w'.cell? ⟨gb345, 0, none⟩ = some (.slice Ao9 t338.length co9) ∧ w'.cell? ⟨gb345, 1, none⟩ = some (.slice Ao11 t341.length co11) ∧ w'.cell? ⟨gb353, 0, none⟩ = some (.slice Ao14 t346.length co14) ∧ w'.cell? ⟨gb353, 1, none⟩ = some (.slice Ao17 t349.length co17)) (ds := []) #[false, false, false, false, false, false, false, false, false, false, false, false, false, false, false] (by kernel_rfl) rfl rfl ⟨(blk_cell BK345.out 0).trans rfl, (blk_cell BK345.out 1).trans rfl, (blk_cell BK353.out 0).trans rfl, (blk_cell BK353.out 1).trans rfl⟩ (fun hHeld => ?_); refine with_tabW spec_l2Two.tab10 spec_l2Two.bits10 (fun HT_ HW_ => ?_)
                    generalize wr.drew = w55 at HO_346000 HO_346001 HO_354000 HO_354001 HO_363000 HO_363001 BK345 BK353 BK362 HB hHeld ⊢
                    refine pure_ (i := 0) (N := some 49) (v := ?_) (a' := ?_) #[true, false, false, false, false, false, false, false, false, false, false, false, false, false, false] rfl rfl (any_of HT_.out (by kernel_rfl)) (fun _ _ _ h => h) (Or.inl ⟨by rfl, ?_⟩) ?_ ?_
                    rotate_left
                    · intro w'
                      go_simp
                      with_reducible rfl
                    rotate_left
                    · simp only [Act.put, List.setIfInBounds_toArray, List.set_cons_zero, List.set_cons_succ, i64_w, i32_w]
                      rfl
                    refine pure_ (i := 2) (N := some 51) (v := ?_) (a' := ?_) #[true, false, true, false, false, false, false, false, false, false, false, false, false, false, false] rfl rfl (any_of HT_.out (by kernel_rfl)) (fun _ _ _ h => h) (Or.inl ⟨by rfl, ?_⟩) ?_ ?_
                    rotate_left
                    · intro w'
                      go_simp
                      with_reducible rfl
                    rotate_left
                    · simp only [Act.put, List.setIfInBounds_toArray, List.set_cons_zero, List.set_cons_succ, i64_w, i32_w]
                      rfl
                    refine pure_ (i := 7) (N := some 56) (v := ?_) (a' := ?_) #[true, false, true, false, false, false, false, true, false, false, false, false, false, false, false] rfl rfl (any_of HT_.out (by kernel_rfl)) (fun _ _ _ h => h) (Or.inl ⟨by rfl, ?_⟩) ?_ ?_
                    rotate_left
                    · intro w'
                      go_simp
                      with_reducible rfl
                    rotate_left
                    · simp only [Act.put, List.setIfInBounds_toArray, List.set_cons_zero, List.set_cons_succ, i64_w, i32_w]
                      rfl
                    refine take_ (i := 1) (N := some 50) (v := ?_) (a' := ?_) #[true, true, true, false, false, false, false, true, false, false, false, false, false, false, false] rfl rfl (take_ofW HT_.out HW_.out (by kernel_rfl)) (fun _ _ _ h => h) (Or.inl ⟨by rfl, ?_⟩) hHeld ?_ ?_
                    rotate_left
                    · rintro w' ⟨s0, s1, s2, s3⟩
                      go_simp
                      with_reducible rfl
                    rotate_left
                    · simp only [Act.put, List.setIfInBounds_toArray, List.set_cons_zero, List.set_cons_succ, i64_w, i32_w]
                      rfl
                    refine take_ (i := 6) (N := some 55) (v := ?_) (a' := ?_) #[true, true, true, false, false, false, true, true, false, false, false, false, false, false, false] rfl rfl (take_ofW HT_.out HW_.out (by kernel_rfl)) (fun _ _ _ h => h) (Or.inl ⟨by rfl, ?_⟩) hHeld ?_ ?_
                    rotate_left
                    · rintro w' ⟨s0, s1, s2, s3⟩
                      go_simp
                      with_reducible rfl
                    rotate_left
                    · simp only [Act.put, List.setIfInBounds_toArray, List.set_cons_zero, List.set_cons_succ, i64_w, i32_w]
                      rfl
                    refine one_ (i := 3) (N := some 52) #[true, true, true, true, false, false, true, true, false, false, false, false, false, false, false] rfl rfl (one_of HT_.out (by kernel_rfl)) (by decide) (fun K hK => ?_)
                    refine goes_ Try.func26 (by kernel_rfl) rfl #[.agg #[.slice Ao9 t338.length co9, .slice Ao11 t341.length co11], .int .i64 x15_2] (by rfl) rfl rfl (by (try simp only [List.map_toArray, List.map_cons, List.map_nil]); first | done | rfl | (simp only [List.length_drop, List.length_take]; rfl)) ?_
                    with_reducible refine (spec_l1Has.calls _ _ t338 _ _ t341 x15_2 t365 _ ?side1 ?side2 ?side3 ?side4 A36.out).mono ?_
                    (case side1 => repeat (first | exact (Kd.R_reads' HO_346000.out).2.2 | (with_reducible refine Kd.C_alloc ?_ _) | (with_reducible refine Kd.C_drewN ?_ _) | (with_reducible refine Kd.C_drew ?_)))
                    (case side2 => exact (Kd.R_reads' HO_346000.out).2.1)
                    (case side3 => repeat (first | exact (Kd.R_reads' HO_346001.out).2.2 | (with_reducible refine Kd.C_alloc ?_ _) | (with_reducible refine Kd.C_drewN ?_ _) | (with_reducible refine Kd.C_drew ?_)))
                    (case side4 => exact (Kd.R_reads' HO_346001.out).2.1)
                    rintro e w56 ⟨rfl, hb⟩
                    refine ⟨_, rfl, ?_⟩
                    have n0_ := Aside0.mk (Kd.R_below (by (with_reducible repeat (first | apply Kd.R_alloc | apply Kd.R_drewN | apply Kd.R_drew)); exact HO_346000.out) hb)
                    have n1_ := Aside0.mk (Kd.R_below (by (with_reducible repeat (first | apply Kd.R_alloc | apply Kd.R_drewN | apply Kd.R_drew)); exact HO_346001.out) hb)
                    have n2_ := Aside0.mk (Kd.R_below (by (with_reducible repeat (first | apply Kd.R_alloc | apply Kd.R_drewN | apply Kd.R_drew)); exact HO_354000.out) hb)
                    have n3_ := Aside0.mk (Kd.R_below (by (with_reducible repeat (first | apply Kd.R_alloc | apply Kd.R_drewN | apply Kd.R_drew)); exact HO_354001.out) hb)
                    have n4_ := Aside0.mk (Kd.R_below (by (with_reducible repeat (first | apply Kd.R_alloc | apply Kd.R_drewN | apply Kd.R_drew)); exact HO_363000.out) hb)
                    have n5_ := Aside0.mk (Kd.R_below (by (with_reducible repeat (first | apply Kd.R_alloc | apply Kd.R_drewN | apply Kd.R_drew)); exact HO_363001.out) hb)
                    have n6_ := Aside0.mk (blk_below (g := gb345) (o := .cells #[.slice Ao9 t338.length co9, .slice Ao11 t341.length co11] 36 (0, 0)) (by (with_reducible repeat (first | refine blk_drewN ?_ _ | refine blk_drew ?_ | refine blk_alloc ?_ _)); exact BK345.out) hb)
                    have n7_ := Aside0.mk (blk_below (g := gb353) (o := .cells #[.slice Ao14 t346.length co14, .slice Ao17 t349.length co17] 36 (0, 0)) (by (with_reducible repeat (first | refine blk_drewN ?_ _ | refine blk_drew ?_ | refine blk_alloc ?_ _)); exact BK353.out) hb)
                    have n8_ := Aside0.mk (blk_below (g := gb362) (o := .cells #[u363000, u363001] 36 (0, 0)) (by (with_reducible repeat (first | refine blk_drewN ?_ _ | refine blk_drew ?_ | refine blk_alloc ?_ _)); exact BK362.out) hb)
                    have n9_ := Aside0.mk (below_step (by repeat (first | (with_reducible first | exact HB.out | apply below_alloc | apply pw_below_drewN | apply below_drew1 | refine below_set ?_ GE345.out | refine below_set ?_ GE353.out | refine below_set ?_ GE362.out) | exact HB.out)) hb)
                    clear HO_346000
                    clear HO_346001
                    clear HO_354000
                    clear HO_354001
                    clear HO_363000
                    clear HO_363001
                    clear BK345
                    clear BK353
                    clear BK362
                    clear HB
                    have HO_346000 := n0_
                    have HO_346001 := n1_
                    have HO_354000 := n2_
                    have HO_354001 := n3_
                    have HO_363000 := n4_
                    have HO_363001 := n5_
                    have BK345 := n6_
                    have BK353 := n7_
                    have BK362 := n8_
                    have HB := n9_
                    clear n0_ n1_ n2_ n3_ n4_ n5_ n6_ n7_ n8_ n9_
                    (try clear hb)
                    (try clear hb2)
                    (try clear hk)
                    (try clear hi)
                    refine hK.out _ _ ⟨(blk_cell BK345.out 0).trans rfl, (blk_cell BK345.out 1).trans rfl, (blk_cell BK353.out 0).trans rfl, (blk_cell BK353.out 1).trans rfl⟩ (fun hHeld => ?_)
                    clear hK K
                    refine norm_ (a' := ?_) ?_ ?_
                    rotate_left
                    · show Act.put _ (some 52) _ = _
                      simp only [Act.put, List.setIfInBounds_toArray, List.set_cons_zero, List.set_cons_succ, i64_w, i32_w]
                      rfl
                    refine one_ (i := 4) (N := some 53) #[true, true, true, true, true, false, true, true, false, false, false, false, false, false, false] rfl rfl (one_of HT_.out (by kernel_rfl)) (by decide) (fun K hK => ?_)
                    refine goes_ Try.func53 (by kernel_rfl) rfl #[.bool t365] (by rfl) rfl rfl (by (try simp only [List.map_toArray, List.map_cons, List.map_nil]); first | done | rfl | (simp only [List.length_drop, List.length_take]; rfl)) ?_
                    with_reducible refine (spec_l1Bit.calls t365 t366 _ A37.out).mono ?_
                    rintro e w' ⟨rfl, ⟨nd, rfl⟩⟩
                    refine ⟨_, rfl, ?_⟩
                    refine hK.out _ _ ⟨(blk_cell BK345.out 0).trans rfl, (blk_cell BK345.out 1).trans rfl, (blk_cell BK353.out 0).trans rfl, (blk_cell BK353.out 1).trans rfl⟩ (fun hHeld => ?_)
                    clear hK K
                    refine norm_ (a' := ?_) ?_ ?_
                    rotate_left
                    · show Act.put _ (some 53) _ = _
                      simp only [Act.put, List.setIfInBounds_toArray, List.set_cons_zero, List.set_cons_succ, i64_w, i32_w]
                      rfl
                    refine pure_ (i := 5) (N := some 54) (v := ?_) (a' := ?_) #[true, true, true, true, true, true, true, true, false, false, false, false, false, false, false] rfl rfl (any_of HT_.out (by kernel_rfl)) (fun _ _ _ h => h) (Or.inl ⟨by rfl, ?_⟩) ?_ ?_
                    rotate_left
                    · intro w'
                      go_simp
                      with_reducible rfl
                    rotate_left
                    · simp only [Act.put, List.setIfInBounds_toArray, List.set_cons_zero, List.set_cons_succ, i64_w, i32_w]
                      rfl
                    refine one_ (i := 8) (N := some 57) #[true, true, true, true, true, true, true, true, true, false, false, false, false, false, false] rfl rfl (one_of HT_.out (by kernel_rfl)) (by decide) (fun K hK => ?_)
                    refine goes_ Try.func26 (by kernel_rfl) rfl #[.agg #[.slice Ao14 t346.length co14, .slice Ao17 t349.length co17], .int .i64 x15_2] (by rfl) rfl rfl (by (try simp only [List.map_toArray, List.map_cons, List.map_nil]); first | done | rfl | (simp only [List.length_drop, List.length_take]; rfl)) ?_
                    with_reducible refine (spec_l1Has.calls _ _ t346 _ _ t349 x15_2 t367 _ ?side1 ?side2 ?side3 ?side4 A38.out).mono ?_
                    (case side1 => repeat (first | exact (Kd.R_reads' HO_354000.out).2.2 | (with_reducible refine Kd.C_alloc ?_ _) | (with_reducible refine Kd.C_drewN ?_ _) | (with_reducible refine Kd.C_drew ?_)))
                    (case side2 => exact (Kd.R_reads' HO_354000.out).2.1)
                    (case side3 => repeat (first | exact (Kd.R_reads' HO_354001.out).2.2 | (with_reducible refine Kd.C_alloc ?_ _) | (with_reducible refine Kd.C_drewN ?_ _) | (with_reducible refine Kd.C_drew ?_)))
                    (case side4 => exact (Kd.R_reads' HO_354001.out).2.1)
                    rintro e w57 ⟨rfl, hb⟩
                    refine ⟨_, rfl, ?_⟩
                    have n0_ := Aside0.mk (Kd.R_below (by (with_reducible repeat (first | apply Kd.R_alloc | apply Kd.R_drewN | apply Kd.R_drew)); exact HO_346000.out) hb)
                    have n1_ := Aside0.mk (Kd.R_below (by (with_reducible repeat (first | apply Kd.R_alloc | apply Kd.R_drewN | apply Kd.R_drew)); exact HO_346001.out) hb)
                    have n2_ := Aside0.mk (Kd.R_below (by (with_reducible repeat (first | apply Kd.R_alloc | apply Kd.R_drewN | apply Kd.R_drew)); exact HO_354000.out) hb)
                    have n3_ := Aside0.mk (Kd.R_below (by (with_reducible repeat (first | apply Kd.R_alloc | apply Kd.R_drewN | apply Kd.R_drew)); exact HO_354001.out) hb)
                    have n4_ := Aside0.mk (Kd.R_below (by (with_reducible repeat (first | apply Kd.R_alloc | apply Kd.R_drewN | apply Kd.R_drew)); exact HO_363000.out) hb)
                    have n5_ := Aside0.mk (Kd.R_below (by (with_reducible repeat (first | apply Kd.R_alloc | apply Kd.R_drewN | apply Kd.R_drew)); exact HO_363001.out) hb)
                    have n6_ := Aside0.mk (blk_below (g := gb345) (o := .cells #[.slice Ao9 t338.length co9, .slice Ao11 t341.length co11] 36 (0, 0)) (by (with_reducible repeat (first | refine blk_drewN ?_ _ | refine blk_drew ?_ | refine blk_alloc ?_ _)); exact BK345.out) hb)
                    have n7_ := Aside0.mk (blk_below (g := gb353) (o := .cells #[.slice Ao14 t346.length co14, .slice Ao17 t349.length co17] 36 (0, 0)) (by (with_reducible repeat (first | refine blk_drewN ?_ _ | refine blk_drew ?_ | refine blk_alloc ?_ _)); exact BK353.out) hb)
                    have n8_ := Aside0.mk (blk_below (g := gb362) (o := .cells #[u363000, u363001] 36 (0, 0)) (by (with_reducible repeat (first | refine blk_drewN ?_ _ | refine blk_drew ?_ | refine blk_alloc ?_ _)); exact BK362.out) hb)
                    have n9_ := Aside0.mk (below_step (by repeat (first | (with_reducible first | exact HB.out | apply below_alloc | apply pw_below_drewN | apply below_drew1 | refine below_set ?_ GE345.out | refine below_set ?_ GE353.out | refine below_set ?_ GE362.out) | exact HB.out)) hb)
                    clear HO_346000
                    clear HO_346001
                    clear HO_354000
                    clear HO_354001
                    clear HO_363000
                    clear HO_363001
                    clear BK345
                    clear BK353
                    clear BK362
                    clear HB
                    have HO_346000 := n0_
                    have HO_346001 := n1_
                    have HO_354000 := n2_
                    have HO_354001 := n3_
                    have HO_363000 := n4_
                    have HO_363001 := n5_
                    have BK345 := n6_
                    have BK353 := n7_
                    have BK362 := n8_
                    have HB := n9_
                    clear n0_ n1_ n2_ n3_ n4_ n5_ n6_ n7_ n8_ n9_
                    (try clear hb)
                    (try clear hb2)
                    (try clear hk)
                    (try clear hi)
                    refine hK.out _ _ ⟨(blk_cell BK345.out 0).trans rfl, (blk_cell BK345.out 1).trans rfl, (blk_cell BK353.out 0).trans rfl, (blk_cell BK353.out 1).trans rfl⟩ (fun hHeld => ?_)
                    clear hK K
                    refine norm_ (a' := ?_) ?_ ?_
                    rotate_left
                    · show Act.put _ (some 57) _ = _
                      simp only [Act.put, List.setIfInBounds_toArray, List.set_cons_zero, List.set_cons_succ, i64_w, i32_w]
                      rfl
                    refine one_ (i := 9) (N := some 58) #[true, true, true, true, true, true, true, true, true, true, false, false, false, false, false] rfl rfl (one_of HT_.out (by kernel_rfl)) (by decide) (fun K hK => ?_)
                    refine goes_ Try.func53 (by kernel_rfl) rfl #[.bool t367] (by rfl) rfl rfl (by (try simp only [List.map_toArray, List.map_cons, List.map_nil]); first | done | rfl | (simp only [List.length_drop, List.length_take]; rfl)) ?_
                    with_reducible refine (spec_l1Bit.calls t367 t368 _ A39.out).mono ?_
                    rintro e w' ⟨rfl, ⟨nd, rfl⟩⟩
                    refine ⟨_, rfl, ?_⟩
                    refine hK.out _ _ ⟨(blk_cell BK345.out 0).trans rfl, (blk_cell BK345.out 1).trans rfl, (blk_cell BK353.out 0).trans rfl, (blk_cell BK353.out 1).trans rfl⟩ (fun hHeld => ?_)
                    clear hK K
                    refine norm_ (a' := ?_) ?_ ?_
                    rotate_left
                    · show Act.put _ (some 58) _ = _
                      simp only [Act.put, List.setIfInBounds_toArray, List.set_cons_zero, List.set_cons_succ, i64_w, i32_w]
                      rfl
                    refine pure_ (i := 10) (N := some 59) (v := ?_) (a' := ?_) #[true, true, true, true, true, true, true, true, true, true, true, false, false, false, false] rfl rfl (any_of HT_.out (by kernel_rfl)) (fun _ _ _ h => h) (Or.inl ⟨by rfl, ?_⟩) ?_ ?_
                    rotate_left
                    · intro w'
                      go_simp
                      with_reducible rfl
                    rotate_left
                    · simp only [Act.put, List.setIfInBounds_toArray, List.set_cons_zero, List.set_cons_succ, i64_w, i32_w]
                      rfl
                    refine pure_ (i := 11) (N := some 60) (v := ?_) (a' := ?_) #[true, true, true, true, true, true, true, true, true, true, true, true, false, false, false] rfl rfl (any_of HT_.out (by kernel_rfl)) (fun _ _ _ h => h) (Or.inl ⟨by rfl, ?_⟩) ?_ ?_
                    rotate_left
                    · intro w'
                      go_simp
                      with_reducible rfl
                    rotate_left
                    · simp only [Act.put, List.setIfInBounds_toArray, List.set_cons_zero, List.set_cons_succ, i64_w, i32_w]
                      rfl
                    refine pure_ (i := 12) (N := some 61) (v := ?_) (a' := ?_) #[true, true, true, true, true, true, true, true, true, true, true, true, true, false, false] rfl rfl (any_of HT_.out (by kernel_rfl)) (fun _ _ _ h => h) (Or.inl ⟨by rfl, ?_⟩) ?_ ?_
                    rotate_left
                    · intro w'
                      go_simp
                      with_reducible rfl
                    rotate_left
                    · simp only [Act.put, List.setIfInBounds_toArray, List.set_cons_zero, List.set_cons_succ, i64_w, i32_w]
                      rfl
                    refine pure_ (i := 13) (N := some 62) (v := ?_) (a' := ?_) #[true, true, true, true, true, true, true, true, true, true, true, true, true, true, false] rfl rfl (any_of HT_.out (by kernel_rfl)) (fun _ _ _ h => h) (Or.inl ⟨by rfl, ?_⟩) ?_ ?_
                    rotate_left
                    · intro w'
                      go_simp
                      with_reducible rfl
                    rotate_left
                    · simp only [Act.put, List.setIfInBounds_toArray, List.set_cons_zero, List.set_cons_succ, i64_w, i32_w]
                      rfl
                    refine pure_ (i := 14) (N := some 16) (v := ?_) (a' := ?_) #[true, true, true, true, true, true, true, true, true, true, true, true, true, true, true] rfl rfl (any_of HT_.out (by kernel_rfl)) (fun _ _ _ h => h) (Or.inl ⟨by rfl, ?_⟩) ?_ ?_
                    rotate_left
                    · intro w'
                      go_simp
                      with_reducible rfl
                    rotate_left
                    · simp only [Act.put, List.setIfInBounds_toArray, List.set_cons_zero, List.set_cons_succ, i64_w, i32_w]
                      rfl
                    refine done_ (done_of HT_.out (by kernel_rfl)) ?_
                    have hnb58 := NB362_345.out
                    have hnc58 := NB345_362.out
                    have hnb59 := NB362_353.out
                    have hnc59 := NB353_362.out
                    have hcz60_0 : w57.cell? ⟨gb362, 0, none⟩ = some (u363000) := (blk_cell BK362.out 0).trans rfl
                    have hcz60_1 : w57.cell? ⟨gb362, 1, none⟩ = some (u363001) := (blk_cell BK362.out 1).trans rfl
                    have hfz60_0 := blk_frozen BK362.out 0
                    have hfz60_1 := blk_frozen BK362.out 1
                    try go_wp2_with (first | ((with_reducible refine gate_builtin (b := .append) (xs := #[.tmp 73, .tmp 75]) rfl ?_); at_builtin; refine Kd.R_append Kd.bool (w0 := w) w.heap.size rfl (.tmp 73) (.tmp 75) 34 4 (.bool false) 1 rfl Try.underlying34 info4 rfl (by decide) (by omega) u363001 x363001_2 ((Go.bits .and .i64 (ji42) 1) == 1) [.bool ((Go.bits .and .i64 (ji42) 1) == 1)] (fun k_ => some k_ ≠ (.slice Ao9 t338.length co9 : Value).ownBlock ∧ some k_ ≠ (.slice Ao11 t341.length co11 : Value).ownBlock ∧ some k_ ≠ (.slice Ao14 t346.length co14 : Value).ownBlock ∧ some k_ ≠ (.slice Ao17 t349.length co17 : Value).ownBlock ∧ some k_ ≠ (u363000 : Value).ownBlock) (fun _ => False) rfl rfl ?aP (fun _ hk => hk.elim) ?aF ?aO ?aB ?aS ?aL ?_; (case aP => exact rfl); (case aB => exact (by repeat (first | (with_reducible first | exact HB.out | apply below_alloc | apply pw_below_drewN | apply below_drew1 | refine below_set ?_ GE345.out | refine below_set ?_ GE353.out | refine below_set ?_ GE362.out) | exact HB.out))); (case aF => exact (fun k_ hk => ⟨Kd.fresh' (Kd.R_lt (by (with_reducible repeat (first | apply Kd.R_alloc | apply Kd.R_drewN | apply Kd.R_drew)); exact HO_346000.out)) k_ hk, Kd.fresh' (Kd.R_lt (by (with_reducible repeat (first | apply Kd.R_alloc | apply Kd.R_drewN | apply Kd.R_drew)); exact HO_346001.out)) k_ hk, Kd.fresh' (Kd.R_lt (by (with_reducible repeat (first | apply Kd.R_alloc | apply Kd.R_drewN | apply Kd.R_drew)); exact HO_354000.out)) k_ hk, Kd.fresh' (Kd.R_lt (by (with_reducible repeat (first | apply Kd.R_alloc | apply Kd.R_drewN | apply Kd.R_drew)); exact HO_354001.out)) k_ hk, Kd.fresh' (Kd.R_lt (by (with_reducible repeat (first | apply Kd.R_alloc | apply Kd.R_drewN | apply Kd.R_drew)); exact HO_363000.out)) k_ hk⟩)); (case aO => exact (by (with_reducible repeat (first | apply Kd.R_alloc | apply Kd.R_drewN | apply Kd.R_drew)); exact HO_363001.out)); (case aS => exact (below_size (by repeat (first | (with_reducible first | exact HB.out | apply below_alloc | apply pw_below_drewN | apply below_drew1 | refine below_set ?_ GE345.out | refine below_set ?_ GE353.out | refine below_set ?_ GE362.out) | exact HB.out)))); (case aL => have := LMc54.out; omega); intro v373 w61 ho hb hg hat; rw [← Ny372.out] at ho; have n0_ := Aside0.mk (Kd.R_after (ok := (fun k_ => some k_ ≠ (.slice Ao11 t341.length co11 : Value).ownBlock ∧ some k_ ≠ (.slice Ao14 t346.length co14 : Value).ownBlock ∧ some k_ ≠ (.slice Ao17 t349.length co17 : Value).ownBlock ∧ some k_ ≠ (u363000 : Value).ownBlock)) (by (with_reducible repeat (first | apply Kd.R_alloc | apply Kd.R_drewN | apply Kd.R_drew)); exact Kd.R_mono HO_346000.out (fun _ hk => ⟨⟨hk.1, ⟨hk.2.1, ⟨hk.2.2.1, hk.2.2.2.1⟩⟩⟩, hk.2.2.2.2⟩)) hg hat); have n1_ := Aside0.mk (Kd.R_after (ok := (fun k_ => some k_ ≠ (.slice Ao9 t338.length co9 : Value).ownBlock ∧ some k_ ≠ (.slice Ao14 t346.length co14 : Value).ownBlock ∧ some k_ ≠ (.slice Ao17 t349.length co17 : Value).ownBlock ∧ some k_ ≠ (u363000 : Value).ownBlock)) (by (with_reducible repeat (first | apply Kd.R_alloc | apply Kd.R_drewN | apply Kd.R_drew)); exact Kd.R_mono HO_346001.out (fun _ hk => ⟨⟨hk.1, ⟨hk.2.1, ⟨hk.2.2.1, hk.2.2.2.1⟩⟩⟩, hk.2.2.2.2⟩)) hg hat); have n2_ := Aside0.mk (Kd.R_after (ok := (fun k_ => some k_ ≠ (.slice Ao9 t338.length co9 : Value).ownBlock ∧ some k_ ≠ (.slice Ao11 t341.length co11 : Value).ownBlock ∧ some k_ ≠ (.slice Ao17 t349.length co17 : Value).ownBlock ∧ some k_ ≠ (u363000 : Value).ownBlock)) (by (with_reducible repeat (first | apply Kd.R_alloc | apply Kd.R_drewN | apply Kd.R_drew)); exact Kd.R_mono HO_354000.out (fun _ hk => ⟨⟨hk.1, ⟨hk.2.1, ⟨hk.2.2.1, hk.2.2.2.1⟩⟩⟩, hk.2.2.2.2⟩)) hg hat); have n3_ := Aside0.mk (Kd.R_after (ok := (fun k_ => some k_ ≠ (.slice Ao9 t338.length co9 : Value).ownBlock ∧ some k_ ≠ (.slice Ao11 t341.length co11 : Value).ownBlock ∧ some k_ ≠ (.slice Ao14 t346.length co14 : Value).ownBlock ∧ some k_ ≠ (u363000 : Value).ownBlock)) (by (with_reducible repeat (first | apply Kd.R_alloc | apply Kd.R_drewN | apply Kd.R_drew)); exact Kd.R_mono HO_354001.out (fun _ hk => ⟨⟨hk.1, ⟨hk.2.1, ⟨hk.2.2.1, hk.2.2.2.1⟩⟩⟩, hk.2.2.2.2⟩)) hg hat); have n4_ := Aside0.mk (Kd.R_after (ok := (fun k_ => some k_ ≠ (.slice Ao9 t338.length co9 : Value).ownBlock ∧ some k_ ≠ (.slice Ao11 t341.length co11 : Value).ownBlock ∧ some k_ ≠ (.slice Ao14 t346.length co14 : Value).ownBlock ∧ some k_ ≠ (.slice Ao17 t349.length co17 : Value).ownBlock)) (by (with_reducible repeat (first | apply Kd.R_alloc | apply Kd.R_drewN | apply Kd.R_drew)); exact Kd.R_mono HO_363000.out (fun _ hk => ⟨⟨hk.1, ⟨hk.2.1, ⟨hk.2.2.1, hk.2.2.2.1⟩⟩⟩, hk.2.2.2.2⟩)) hg hat); have n5_ := Aside0.mk (blk_grown (g := gb345) (o := .cells #[.slice Ao9 t338.length co9, .slice Ao11 t341.length co11] 36 (0, 0)) (by (with_reducible repeat (first | refine blk_drewN ?_ _ | refine blk_drew ?_ | refine blk_alloc ?_ _)); exact BK345.out) hg (Kd.R_ne HO_363001.out BK345.out (by decide))); have n6_ := Aside0.mk (blk_grown (g := gb353) (o := .cells #[.slice Ao14 t346.length co14, .slice Ao17 t349.length co17] 36 (0, 0)) (by (with_reducible repeat (first | refine blk_drewN ?_ _ | refine blk_drew ?_ | refine blk_alloc ?_ _)); exact BK353.out) hg (Kd.R_ne HO_363001.out BK353.out (by decide))); have n7_ := Aside0.mk (blk_grown (g := gb362) (o := .cells #[u363000, u363001] 36 (0, 0)) (by (with_reducible repeat (first | refine blk_drewN ?_ _ | refine blk_drew ?_ | refine blk_alloc ?_ _)); exact BK362.out) hg (Kd.R_ne HO_363001.out BK362.out (by decide))); have n8_ := Aside0.mk (hb); have n9_ := Aside0.mk (ho); clear HO_346000; clear HO_346001; clear HO_354000; clear HO_354001; clear HO_363000; clear BK345; clear BK353; clear BK362; clear HB; clear HO_363001; have HO_346000 := n0_; have HO_346001 := n1_; have HO_354000 := n2_; have HO_354001 := n3_; have HO_363000 := n4_; have BK345 := n5_; have BK353 := n6_; have BK362 := n7_; have HB := n8_; have HO374 := n9_; clear n0_ n1_ n2_ n3_ n4_ n5_ n6_ n7_ n8_ n9_; clear ho hb hg hat; obtain ⟨Ao62, co62, eo62⟩ := Kd.R_slice HO374.out; subst eo62; have hcz63_0 : w61.cell? ⟨gb362, 0, none⟩ = some (u363000) := (blk_cell BK362.out 0).trans rfl; have hcz63_1 : w61.cell? ⟨gb362, 1, none⟩ = some (u363001) := (blk_cell BK362.out 1).trans rfl; have hfz63_0 := blk_frozen BK362.out 0; have hfz63_1 := blk_frozen BK362.out 1))
                    go_roundg k2
                    case measure => have := HJ5.out; have := HK2.out; omega
                    case rel => exact ⟨(wrap64 (x15_2 + 1)), (x363000_2), (y372), (u363000), (.slice Ao62 y372.length co62), (by first | rfl | (simp; done) | (simp [*]; done) | (simp [Int.tmod_eq_emod_of_nonneg]; done)), H', ⟨by have := HJ5.out; have := HK2.out; omega⟩, ⟨by (with_reducible repeat (first | apply Kd.R_alloc | apply Kd.R_drewN | apply Kd.R_drew)); exact Kd.R_mono (Kd.R_far (p := ⟨gb362, 1, none⟩) (Kd.R_types HO_346000.out BK362.out (by decide)) (fun _ hk => hk.2) (.slice Ao62 y372.length co62)) (fun _ hk => ⟨hk.1.1.1, ⟨hk.1.1.2.1, ⟨hk.1.1.2.2.1, ⟨hk.1.1.2.2.2, hk.1.2⟩⟩⟩⟩)⟩, ⟨by (with_reducible repeat (first | apply Kd.R_alloc | apply Kd.R_drewN | apply Kd.R_drew)); exact Kd.R_mono (Kd.R_far (p := ⟨gb362, 1, none⟩) (Kd.R_types HO_346001.out BK362.out (by decide)) (fun _ hk => hk.2) (.slice Ao62 y372.length co62)) (fun _ hk => ⟨hk.1.1.1, ⟨hk.1.1.2.1, ⟨hk.1.1.2.2.1, ⟨hk.1.1.2.2.2, hk.1.2⟩⟩⟩⟩)⟩, ⟨by (with_reducible repeat (first | apply Kd.R_alloc | apply Kd.R_drewN | apply Kd.R_drew)); exact Kd.R_mono (Kd.R_far (p := ⟨gb362, 1, none⟩) (Kd.R_types HO_354000.out BK362.out (by decide)) (fun _ hk => hk.2) (.slice Ao62 y372.length co62)) (fun _ hk => ⟨hk.1.1.1, ⟨hk.1.1.2.1, ⟨hk.1.1.2.2.1, ⟨hk.1.1.2.2.2, hk.1.2⟩⟩⟩⟩)⟩, ⟨by (with_reducible repeat (first | apply Kd.R_alloc | apply Kd.R_drewN | apply Kd.R_drew)); exact Kd.R_mono (Kd.R_far (p := ⟨gb362, 1, none⟩) (Kd.R_types HO_354001.out BK362.out (by decide)) (fun _ hk => hk.2) (.slice Ao62 y372.length co62)) (fun _ hk => ⟨hk.1.1.1, ⟨hk.1.1.2.1, ⟨hk.1.1.2.2.1, ⟨hk.1.1.2.2.2, hk.1.2⟩⟩⟩⟩)⟩, ⟨by (with_reducible repeat (first | apply Kd.R_alloc | apply Kd.R_drewN | apply Kd.R_drew)); exact Kd.R_mono (Kd.R_far (p := ⟨gb362, 1, none⟩) (Kd.R_types HO_363000.out BK362.out (by decide)) (fun _ hk => hk.2) (.slice Ao62 y372.length co62)) (fun _ hk => ⟨hk.1.1.1, ⟨hk.1.1.2.1, ⟨hk.1.1.2.2.1, ⟨hk.1.1.2.2.2, hk.1.2⟩⟩⟩⟩)⟩, ⟨by (with_reducible repeat (first | apply Kd.R_alloc | apply Kd.R_drewN | apply Kd.R_drew)); exact Kd.R_mono (Kd.R_far (p := ⟨gb362, 1, none⟩) (Kd.R_types HO374.out BK362.out (by decide)) (fun _ hk => hk.2) (.slice Ao62 y372.length co62)) (fun _ hk => ⟨hk.1.1, ⟨hk.1.2.1, ⟨hk.1.2.2.1, ⟨hk.1.2.2.2.1, hk.1.2.2.2.2⟩⟩⟩⟩)⟩, ⟨by (with_reducible repeat (first | refine blk_drewN ?_ _ | refine blk_drew ?_ | refine blk_alloc ?_ _)); refine blk_far ?_ NB345_362.out _; (with_reducible repeat (first | refine blk_drewN ?_ _ | refine blk_drew ?_ | refine blk_alloc ?_ _)); exact BK345.out⟩, ⟨by (with_reducible repeat (first | refine blk_drewN ?_ _ | refine blk_drew ?_ | refine blk_alloc ?_ _)); refine blk_far ?_ NB353_362.out _; (with_reducible repeat (first | refine blk_drewN ?_ _ | refine blk_drew ?_ | refine blk_alloc ?_ _)); exact BK353.out⟩, ⟨by (with_reducible repeat (first | refine blk_drewN ?_ _ | refine blk_drew ?_ | refine blk_alloc ?_ _)); refine blk_put (cs := #[u363000, u363001]) ?_ 1 _ rfl; (with_reducible repeat (first | refine blk_drewN ?_ _ | refine blk_drew ?_ | refine blk_alloc ?_ _)); exact BK362.out⟩, ⟨by repeat (first | (with_reducible first | exact HB.out | apply below_alloc | apply pw_below_drewN | apply below_drew1 | refine below_set ?_ GE345.out | refine below_set ?_ GE353.out | refine below_set ?_ GE362.out) | exact HB.out)⟩⟩
                  · rw [if_neg c54] at H
                    exact absurd H (by simp)
              · rw [if_neg c41] at H
                exact absurd H (by simp)
            · rw [if_neg c35] at H
              have c35b0 : decide (x15_2 < (wrap64 (t354 + t355))) = false := decide_eq_false c35
              clear c35
              replace H := Option.bind_eq_some_iff.mp H
              obtain ⟨⟨t363, t364⟩, A640, H⟩ := H
              replace H : (some (t363, t364)) = some (r1, r2) := H
              have A64 := Aside0.mk A640
              clear A640
              simp only [Option.some.injEq, Prod.mk.injEq] at H
              obtain ⟨rfl, rfl⟩ := H
              have hnb65 := NB362_345.out
              have hnc65 := NB345_362.out
              have hnb66 := NB362_353.out
              have hnc66 := NB353_362.out
              have hcz67_0 : wr.cell? ⟨gb362, 0, none⟩ = some (u363000) := (blk_cell BK362.out 0).trans rfl
              have hcz67_1 : wr.cell? ⟨gb362, 1, none⟩ = some (u363001) := (blk_cell BK362.out 1).trans rfl
              have hfz67_0 := blk_frozen BK362.out 0
              have hfz67_1 := blk_frozen BK362.out 1
              obtain ⟨Ao68, co68, eo68⟩ := Kd.R_slice HO_363000.out
              subst eo68
              obtain ⟨Ao69, co69, eo69⟩ := Kd.R_slice HO_363001.out
              subst eo69
              go_wp2_with (first | ((with_reducible refine gate_callee (f := 37) rfl ?_); refine goesL_ (some 79) rfl rfl Try.func37 (by kernel_rfl) rfl #[.agg #[.slice Ao68 x363000_2.length co68, .slice Ao69 x363001_2.length co69]] rfl (by (try simp only [List.map_toArray, List.map_cons, List.map_nil]); first | done | rfl | (simp only [List.length_drop, List.length_take]; rfl)) ?_; (with_reducible refine (spec_l1Done.calls k2 _ _ x363000_2 _ _ x363001_2 t363 t364 _ ?side1 ?side2 ?side3 ?side4 A64.out).mono ?_); (case side1 => repeat (first | exact (Kd.R_reads' HO_363000.out).2.2 | (with_reducible refine Kd.C_alloc ?_ _) | (with_reducible refine Kd.C_drewN ?_ _) | (with_reducible refine Kd.C_drew ?_))); (case side2 => exact (Kd.R_reads' HO_363000.out).2.1); (case side3 => repeat (first | exact (Kd.R_reads' HO_363001.out).2.2 | (with_reducible refine Kd.C_alloc ?_ _) | (with_reducible refine Kd.C_drewN ?_ _) | (with_reducible refine Kd.C_drew ?_))); (case side4 => exact (Kd.R_reads' HO_363001.out).2.1); rintro e w70 ⟨rfl, hb⟩; refine ⟨_, rfl, ?_⟩; have n0_ := Aside0.mk (Kd.R_below (by (with_reducible repeat (first | apply Kd.R_alloc | apply Kd.R_drewN | apply Kd.R_drew)); exact HO_346000.out) hb); have n1_ := Aside0.mk (Kd.R_below (by (with_reducible repeat (first | apply Kd.R_alloc | apply Kd.R_drewN | apply Kd.R_drew)); exact HO_346001.out) hb); have n2_ := Aside0.mk (Kd.R_below (by (with_reducible repeat (first | apply Kd.R_alloc | apply Kd.R_drewN | apply Kd.R_drew)); exact HO_354000.out) hb); have n3_ := Aside0.mk (Kd.R_below (by (with_reducible repeat (first | apply Kd.R_alloc | apply Kd.R_drewN | apply Kd.R_drew)); exact HO_354001.out) hb); have n4_ := Aside0.mk (Kd.R_below (by (with_reducible repeat (first | apply Kd.R_alloc | apply Kd.R_drewN | apply Kd.R_drew)); exact HO_363000.out) hb); have n5_ := Aside0.mk (Kd.R_below (by (with_reducible repeat (first | apply Kd.R_alloc | apply Kd.R_drewN | apply Kd.R_drew)); exact HO_363001.out) hb); have n6_ := Aside0.mk (blk_below (g := gb345) (o := .cells #[.slice Ao9 t338.length co9, .slice Ao11 t341.length co11] 36 (0, 0)) (by (with_reducible repeat (first | refine blk_drewN ?_ _ | refine blk_drew ?_ | refine blk_alloc ?_ _)); exact BK345.out) hb); have n7_ := Aside0.mk (blk_below (g := gb353) (o := .cells #[.slice Ao14 t346.length co14, .slice Ao17 t349.length co17] 36 (0, 0)) (by (with_reducible repeat (first | refine blk_drewN ?_ _ | refine blk_drew ?_ | refine blk_alloc ?_ _)); exact BK353.out) hb); have n8_ := Aside0.mk (blk_below (g := gb362) (o := .cells #[.slice Ao68 x363000_2.length co68, .slice Ao69 x363001_2.length co69] 36 (0, 0)) (by (with_reducible repeat (first | refine blk_drewN ?_ _ | refine blk_drew ?_ | refine blk_alloc ?_ _)); exact BK362.out) hb); have n9_ := Aside0.mk (below_step (by repeat (first | (with_reducible first | exact HB.out | apply below_alloc | apply pw_below_drewN | apply below_drew1 | refine below_set ?_ GE345.out | refine below_set ?_ GE353.out | refine below_set ?_ GE362.out) | exact HB.out)) hb); clear HO_346000; clear HO_346001; clear HO_354000; clear HO_354001; clear HO_363000; clear HO_363001; clear BK345; clear BK353; clear BK362; clear HB; have HO_346000 := n0_; have HO_346001 := n1_; have HO_354000 := n2_; have HO_354001 := n3_; have HO_363000 := n4_; have HO_363001 := n5_; have BK345 := n6_; have BK353 := n7_; have BK362 := n8_; have HB := n9_; clear n0_ n1_ n2_ n3_ n4_ n5_ n6_ n7_ n8_ n9_; (try clear hb); (try clear hb2); (try clear hk); (try clear hi)))
              go_ret2
              exact ⟨by first | rfl | (simp [errW_none, errW_some] <;> rfl) | (simp [*, errW_none, errW_some] <;> rfl) | (simp [errW_none, errW_some]; exact ⟨rfl, rfl⟩), by repeat (first | (with_reducible first | exact HB.out | apply below_alloc | apply pw_below_drewN | apply below_drew1 | refine below_set ?_ GE345.out | refine below_set ?_ GE353.out | refine below_set ?_ GE362.out) | exact HB.out)⟩

end Go.Proofs.Ytpammnkboogceaa.P

namespace Go.Proofs.Ytpammnkboogceaa.P
open Go.RowKit Go.Proofs.YtpammnkboogceaaW.PrintWords Go.Proofs.YtpammnkboogceaaW.PrintLast Go.Proofs.YtpammnkboogceaaW.PrintMore
attribute [local go_sem] max2_int min2_int max_two min_two max_three min_three max_four min_four   -- for this text's walks alone
set_option linter.unusedVariables false
set_option linter.unusedSimpArgs false

/-! ### spec_MakeOther: function 15 -/
def spec_MakeOther.f (k : Nat) (a0 : ByteArray) : Option (ByteArray × Bool) := (spec_l2Two.f k a0 a0 1).bind fun bt375 => (some (bt375.1, bt375.2))
theorem spec_MakeOther.mono : ∀ a0 k, LeO (spec_MakeOther.f k a0) (spec_MakeOther.f (k + 1) a0) := by
  intro a0 k
  unfold spec_MakeOther.f
  repeat' first
      | (with_reducible exact spec_l2Two.mono _ _ _ _)
      | (with_reducible exact LeO.refl _)
      | (with_reducible exact LeO.none _)
      | (with_reducible refine LeO.ite ?_ ?_)
      | (with_reducible refine LeO.bind ?_ (fun _ => ?_))
      | exact spec_l2Two.mono _ _ _ _
      | exact LeO.none _
      | refine LeO.ite ?_ ?_
      | refine LeO.bind ?_ (fun _ => ?_)
set_option maxHeartbeats 8000000 in
set_option maxRecDepth 100000 in
theorem spec_MakeOther.calls (k : Nat) (a0 : ByteArray) (r1 : ByteArray) (r2 : Bool) (w : World) (h : spec_MakeOther.f k a0 = some (r1, r2)) :
    Calls Try.prog 15 #[.string a0] w fun e w' => e = .returned (.tuple #[.string r1, .bool r2]) ∧ Below w.heap.size w w' := by
  have HB := Aside0.mk (Below.refl w.heap.size w)
  have H : ((spec_l2Two.f k a0 a0 1).bind fun bt375 => (some (bt375.1, bt375.2))) = some (r1, r2) := h
  clear h
  replace H := Option.bind_eq_some_iff.mp H
  obtain ⟨⟨t375, t376⟩, A20, H⟩ := H
  replace H : (some (t375, t376)) = some (r1, r2) := H
  have A2 := Aside0.mk A20
  clear A20
  simp only [Option.some.injEq, Prod.mk.injEq] at H
  obtain ⟨rfl, rfl⟩ := H
  go_enter Try.func15, Try.ntmps15
  go_wp2_with (first | ((with_reducible refine gate_callee (f := 34) rfl ?_); refine goesL_ (some 6) rfl rfl Try.func34 (by kernel_rfl) rfl #[.string a0, .string a0, .int .i64 1] rfl (by (try simp only [List.map_toArray, List.map_cons, List.map_nil]); first | done | rfl | (simp only [List.length_drop, List.length_take]; rfl)) ?_; (with_reducible refine (spec_l2Two.calls k a0 a0 1 t375 t376 _ A2.out).mono ?_); rintro e w3 ⟨rfl, hb⟩; refine ⟨_, rfl, ?_⟩; have n0_ := Aside0.mk (below_step (by repeat (first | (with_reducible first | exact HB.out | apply below_alloc | apply pw_below_drewN | apply below_drew1) | exact HB.out)) hb); clear HB; have HB := n0_; clear n0_; (try clear hb); (try clear hb2); (try clear hk); (try clear hi)))
  go_ret2
  exact ⟨by first | rfl | (simp [errW_none, errW_some] <;> rfl) | (simp [*, errW_none, errW_some] <;> rfl) | (simp [errW_none, errW_some]; exact ⟨rfl, rfl⟩), by repeat (first | (with_reducible first | exact HB.out | apply below_alloc | apply pw_below_drewN | apply below_drew1) | exact HB.out)⟩

end Go.Proofs.Ytpammnkboogceaa.P

namespace Go.Proofs.Ytpammnkboogceaa.P
open Go.RowKit Go.Proofs.YtpammnkboogceaaW.PrintWords Go.Proofs.YtpammnkboogceaaW.PrintLast Go.Proofs.YtpammnkboogceaaW.PrintMore
attribute [local go_sem] max2_int min2_int max_two min_two max_three min_three max_four min_four   -- for this text's walks alone
set_option linter.unusedVariables false
set_option linter.unusedSimpArgs false

/-! ### laws_FnExactMakeOther: function 6 -/
noncomputable def laws_FnExactMakeOther.f (k : Nat) (a0 : ByteArray) : Option (Bool) := if (a0.size : Int) > 1048576 then (some true) else ((spec_MakeOther.f k a0).bind fun bt377 => ((impl_MakeOther.f a0).bind fun bt379 => (if bt379.1.toList = bt377.1.toList then (if (bt379.2 != bt377.2) = true then (some false) else (some true)) else (some false))))
theorem laws_FnExactMakeOther.mono : ∀ a0 k, LeO (laws_FnExactMakeOther.f k a0) (laws_FnExactMakeOther.f (k + 1) a0) := by
  intro a0 k
  unfold laws_FnExactMakeOther.f
  repeat' first
      | (with_reducible exact spec_MakeOther.mono _ _)
      | (with_reducible exact LeO.refl _)
      | (with_reducible exact LeO.none _)
      | (with_reducible refine LeO.ite ?_ ?_)
      | (with_reducible refine LeO.bind ?_ (fun _ => ?_))
      | exact spec_MakeOther.mono _ _
      | exact LeO.none _
      | refine LeO.ite ?_ ?_
      | refine LeO.bind ?_ (fun _ => ?_)
set_option maxHeartbeats 8000000 in
set_option maxRecDepth 100000 in
theorem laws_FnExactMakeOther.calls (k : Nat) (a0 : ByteArray) (r : Bool) (w : World) (h : laws_FnExactMakeOther.f k a0 = some r) :
    Calls Try.prog 6 #[.string a0] w fun e w' => e = .returned (.bool r) ∧ Below w.heap.size w w' := by
  have HB := Aside0.mk (Below.refl w.heap.size w)
  have H : (if (a0.size : Int) > 1048576 then (some true) else ((spec_MakeOther.f k a0).bind fun bt377 => ((impl_MakeOther.f a0).bind fun bt379 => (if bt379.1.toList = bt377.1.toList then (if (bt379.2 != bt377.2) = true then (some false) else (some true)) else (some false))))) = some r := h
  clear h
  by_cases c2 : (a0.size : Int) > 1048576
  · rw [if_pos c2] at H
    have c2b0 : decide (1048576 < (a0.size : Int)) = true := decide_eq_true c2
    have c2b1 : decide (1048576 < a0.size) = true := decide_eq_true (by omega)
    clear c2
    obtain rfl := Option.some.inj H
    go_enter Try.func6, Try.ntmps6
    go_wp2
    go_ret
    exact ⟨by first | rfl | (simp [errW_none, errW_some] <;> rfl) | (simp [*, errW_none, errW_some] <;> rfl) | (simp [errW_none, errW_some]; exact ⟨rfl, rfl⟩), by repeat (first | (with_reducible first | exact HB.out | apply below_alloc | apply pw_below_drewN | apply below_drew1) | exact HB.out)⟩
  · rw [if_neg c2] at H
    have c2b0 : decide (1048576 < (a0.size : Int)) = false := decide_eq_false c2
    have c2b1 : decide (1048576 < a0.size) = false := decide_eq_false (by omega)
    clear c2
    replace H := Option.bind_eq_some_iff.mp H
    obtain ⟨⟨t377, t378⟩, A30, H⟩ := H
    replace H : ((impl_MakeOther.f a0).bind fun bt379 => (if bt379.1.toList = t377.toList then (if (bt379.2 != t378) = true then (some false) else (some true)) else (some false))) = some r := H
    have A3 := Aside0.mk A30
    clear A30
    replace H := Option.bind_eq_some_iff.mp H
    obtain ⟨⟨t379, t380⟩, A40, H⟩ := H
    replace H : (if t379.toList = t377.toList then (if (t380 != t378) = true then (some false) else (some true)) else (some false)) = some r := H
    have A4 := Aside0.mk A40
    clear A40
    by_cases c5 : t379.toList = t377.toList
    · rw [if_pos c5] at H
      have c5b0 : (t379.toList == t377.toList) = true := beq_iff_eq.mpr c5
      have c5b1 : (t379.toList != t377.toList) = false := bne_eq_false_iff_eq.mpr c5
      clear c5
      by_cases c6 : (t380 != t378) = true
      · rw [if_pos c6] at H
        have c6b0 : (t380 != t378) = true := c6
        (try (have c6b1 : decide (t380 = t378) = false := by simpa using c6))
        (try (have c6b2 : (t380 == t378) = false := by simpa using c6))
        (try (have c6b3 : ¬ (t380 = t378) := by simpa using c6))
        clear c6
        obtain rfl := Option.some.inj H
        go_enter Try.func6, Try.ntmps6
        go_wp2_with (first | ((with_reducible refine gate_callee (f := 15) rfl ?_); refine goesL_ (some 12) rfl rfl Try.func15 (by kernel_rfl) rfl #[.string a0] rfl (by (try simp only [List.map_toArray, List.map_cons, List.map_nil]); first | done | rfl | (simp only [List.length_drop, List.length_take]; rfl)) ?_; (with_reducible refine (spec_MakeOther.calls k a0 t377 t378 _ A3.out).mono ?_); rintro e w7 ⟨rfl, hb⟩; refine ⟨_, rfl, ?_⟩; have n0_ := Aside0.mk (below_step (by repeat (first | (with_reducible first | exact HB.out | apply below_alloc | apply pw_below_drewN | apply below_drew1) | exact HB.out)) hb); clear HB; have HB := n0_; clear n0_; (try clear hb); (try clear hb2); (try clear hk); (try clear hi)) | ((with_reducible refine gate_callee (f := 16) rfl ?_); refine goesL_ (some 17) rfl rfl Try.func16 (by kernel_rfl) rfl #[.string a0] rfl (by (try simp only [List.map_toArray, List.map_cons, List.map_nil]); first | done | rfl | (simp only [List.length_drop, List.length_take]; rfl)) ?_; (with_reducible refine (impl_MakeOther.calls a0 t379 t380 _ A4.out).mono ?_); rintro e w8 ⟨rfl, hb⟩; refine ⟨_, rfl, ?_⟩; have n0_ := Aside0.mk (below_step (by repeat (first | (with_reducible first | exact HB.out | apply below_alloc | apply pw_below_drewN | apply below_drew1) | exact HB.out)) hb); clear HB; have HB := n0_; clear n0_; (try clear hb); (try clear hb2); (try clear hk); (try clear hi)))
        go_ret
        exact ⟨by first | rfl | (simp [errW_none, errW_some] <;> rfl) | (simp [*, errW_none, errW_some] <;> rfl) | (simp [errW_none, errW_some]; exact ⟨rfl, rfl⟩), by repeat (first | (with_reducible first | exact HB.out | apply below_alloc | apply pw_below_drewN | apply below_drew1) | exact HB.out)⟩
      · rw [if_neg c6] at H
        have c6b0 : (t380 != t378) = false := by simpa using c6
        (try (have c6b1 : decide (t380 = t378) = true := by simpa using c6))
        (try (have c6b2 : (t380 == t378) = true := by simpa using c6))
        clear c6
        obtain rfl := Option.some.inj H
        go_enter Try.func6, Try.ntmps6
        go_wp2_with (first | ((with_reducible refine gate_callee (f := 15) rfl ?_); refine goesL_ (some 12) rfl rfl Try.func15 (by kernel_rfl) rfl #[.string a0] rfl (by (try simp only [List.map_toArray, List.map_cons, List.map_nil]); first | done | rfl | (simp only [List.length_drop, List.length_take]; rfl)) ?_; (with_reducible refine (spec_MakeOther.calls k a0 t377 t378 _ A3.out).mono ?_); rintro e w9 ⟨rfl, hb⟩; refine ⟨_, rfl, ?_⟩; have n0_ := Aside0.mk (below_step (by repeat (first | (with_reducible first | exact HB.out | apply below_alloc | apply pw_below_drewN | apply below_drew1) | exact HB.out)) hb); clear HB; have HB := n0_; clear n0_; (try clear hb); (try clear hb2); (try clear hk); (try clear hi)) | ((with_reducible refine gate_callee (f := 16) rfl ?_); refine goesL_ (some 17) rfl rfl Try.func16 (by kernel_rfl) rfl #[.string a0] rfl (by (try simp only [List.map_toArray, List.map_cons, List.map_nil]); first | done | rfl | (simp only [List.length_drop, List.length_take]; rfl)) ?_; (with_reducible refine (impl_MakeOther.calls a0 t379 t380 _ A4.out).mono ?_); rintro e w10 ⟨rfl, hb⟩; refine ⟨_, rfl, ?_⟩; have n0_ := Aside0.mk (below_step (by repeat (first | (with_reducible first | exact HB.out | apply below_alloc | apply pw_below_drewN | apply below_drew1) | exact HB.out)) hb); clear HB; have HB := n0_; clear n0_; (try clear hb); (try clear hb2); (try clear hk); (try clear hi)))
        go_ret
        exact ⟨by first | rfl | (simp [errW_none, errW_some] <;> rfl) | (simp [*, errW_none, errW_some] <;> rfl) | (simp [errW_none, errW_some]; exact ⟨rfl, rfl⟩), by repeat (first | (with_reducible first | exact HB.out | apply below_alloc | apply pw_below_drewN | apply below_drew1) | exact HB.out)⟩
    · rw [if_neg c5] at H
      have c5b0 : (t379.toList == t377.toList) = false := beq_eq_false_iff_ne.mpr c5
      have c5b1 : (t379.toList != t377.toList) = true := bne_iff_ne.mpr c5
      obtain rfl := Option.some.inj H
      go_enter Try.func6, Try.ntmps6
      go_wp2_with (first | ((with_reducible refine gate_callee (f := 15) rfl ?_); refine goesL_ (some 12) rfl rfl Try.func15 (by kernel_rfl) rfl #[.string a0] rfl (by (try simp only [List.map_toArray, List.map_cons, List.map_nil]); first | done | rfl | (simp only [List.length_drop, List.length_take]; rfl)) ?_; (with_reducible refine (spec_MakeOther.calls k a0 t377 t378 _ A3.out).mono ?_); rintro e w11 ⟨rfl, hb⟩; refine ⟨_, rfl, ?_⟩; have n0_ := Aside0.mk (below_step (by repeat (first | (with_reducible first | exact HB.out | apply below_alloc | apply pw_below_drewN | apply below_drew1) | exact HB.out)) hb); clear HB; have HB := n0_; clear n0_; (try clear hb); (try clear hb2); (try clear hk); (try clear hi)) | ((with_reducible refine gate_callee (f := 16) rfl ?_); refine goesL_ (some 17) rfl rfl Try.func16 (by kernel_rfl) rfl #[.string a0] rfl (by (try simp only [List.map_toArray, List.map_cons, List.map_nil]); first | done | rfl | (simp only [List.length_drop, List.length_take]; rfl)) ?_; (with_reducible refine (impl_MakeOther.calls a0 t379 t380 _ A4.out).mono ?_); rintro e w12 ⟨rfl, hb⟩; refine ⟨_, rfl, ?_⟩; have n0_ := Aside0.mk (below_step (by repeat (first | (with_reducible first | exact HB.out | apply below_alloc | apply pw_below_drewN | apply below_drew1) | exact HB.out)) hb); clear HB; have HB := n0_; clear n0_; (try clear hb); (try clear hb2); (try clear hk); (try clear hi)))
      go_ret
      exact ⟨by first | rfl | (simp [errW_none, errW_some] <;> rfl) | (simp [*, errW_none, errW_some] <;> rfl) | (simp [errW_none, errW_some]; exact ⟨rfl, rfl⟩), by repeat (first | (with_reducible first | exact HB.out | apply below_alloc | apply pw_below_drewN | apply below_drew1) | exact HB.out)⟩

/-- THE ONE PURE STATEMENT of laws_FnExactMakeOther: yours. -/
noncomputable def laws_FnExactMakeOther.Pure : Prop := ∀ (a0 : ByteArray), a0.size ≤ 140737488351232 → ∃ k, laws_FnExactMakeOther.f k a0 = some true
theorem laws_FnExactMakeOther.walk (P : laws_FnExactMakeOther.Pure) (a0 : ByteArray) (w : World) (w0 : a0.size ≤ 140737488351232) :
    Calls Try.prog 6 #[.string a0] w fun e w' => e = .returned (.bool true) ∧ Below w.heap.size w w' := by
  obtain ⟨k, h⟩ := P a0 w0
  refine (laws_FnExactMakeOther.calls k a0 true w h).mono ?_
  rintro e w' ⟨rfl, hd⟩
  exact ⟨rfl, hd⟩

end Go.Proofs.Ytpammnkboogceaa.P

-- spec.l1Divisor, spec.l1Shape: from which number on two sets come again together, and by how many.
namespace Go.Proofs.Ytpammnkboogceaa.P
open Go.RowKit Go.Proofs.YtpammnkboogceaaW.PrintWords Go.Proofs.YtpammnkboogceaaW.PrintLast Go.Proofs.YtpammnkboogceaaW.PrintMore
set_option linter.unusedVariables false
set_option linter.unusedSimpArgs false

theorem sgcd_l0 : ∀ (n m : Nat), n ≤ 1000000 → m ≤ 1000000 → Ev (fun k => spec_l1Divisor.l0 k (m : Int) (n : Int)) ((Nat.gcd n m : Nat) : Int) := by
  intro n
  induction n using Nat.strongRecOn with
  | ind n ih =>
    intro m hn hm
    by_cases h0 : n = 0
    · subst h0
      rw [Nat.gcd_zero_left]
      refine Ev.step (f := fun k => some ((m : Nat) : Int)) (fun k => ?_) (Ev.now _)
      simp only [spec_l1Divisor.l0]; rw [if_neg (by omega)]
    · have hlt := Nat.mod_lt m (Nat.pos_of_ne_zero h0)
      have := ih (m % n) hlt n (by omega) hn
      rw [Nat.gcd_rec n m]
      refine Ev.step (fun k => ?_) this
      simp only [spec_l1Divisor.l0]
      rw [if_pos (by omega), if_neg (by omega), tmod_nat]
theorem shape_f (a b c d : List Bool) (hb : b.length ≤ 1000) (hd : d.length ≤ 1000) (h0 : 0 < b.length) : Ev (fun k => spec_l1Shape.f k a b c d) (((max a.length c.length : Nat) : Int), ((Nat.lcm b.length d.length : Nat) : Int)) := by
  have hg : 0 < Nat.gcd b.length d.length := Nat.gcd_pos_of_pos_left d.length h0
  have hmn : b.length * d.length ≤ 1000 * 1000 := Nat.mul_le_mul hb hd
  have hle : Nat.lcm b.length d.length ≤ b.length * d.length := by unfold Nat.lcm; exact Nat.div_le_self _ _
  have hdv : b.length / Nat.gcd b.length d.length * d.length = Nat.lcm b.length d.length := by
    unfold Nat.lcm
    rw [Nat.div_mul_right_comm (Nat.gcd_dvd_left b.length d.length)]
  have hd1 : b.length / Nat.gcd b.length d.length ≤ b.length := Nat.div_le_self _ _
  have hev := sgcd_l0 d.length b.length (by omega) (by omega)
  rw [Nat.gcd_comm] at hev
  refine Ev.congr (fun k => rfl) (Ev.bind hev ?_)
  simp only [if_neg (show ¬ (((Nat.gcd b.length d.length : Nat) : Int) = 0) by omega)]
  have e0 : (b.length : Int) / ((Nat.gcd b.length d.length : Nat) : Int) = ((b.length / Nat.gcd b.length d.length : Nat) : Int) := rfl
  have e1 : wrap64 ((b.length / Nat.gcd b.length d.length : Nat) : Int) = ((b.length / Nat.gcd b.length d.length : Nat) : Int) := by
    generalize b.length / Nat.gcd b.length d.length = x at hd1 ⊢
    exact w64 (by omega) (by omega)
  have e2 : wrap64 (((b.length / Nat.gcd b.length d.length : Nat) : Int) * (d.length : Int)) = ((Nat.lcm b.length d.length : Nat) : Int) := by
    have : ((b.length / Nat.gcd b.length d.length : Nat) : Int) * (d.length : Int) = ((Nat.lcm b.length d.length : Nat) : Int) := by rw [← hdv, Int.natCast_mul]
    rw [this]; exact w64 (by omega) (by omega)
  have e3 : mx (a.length : Int) (c.length : Int) = ((max a.length c.length : Nat) : Int) := by unfold mx; split <;> omega
  rw [e0, e1, e2, e3]; exact Ev.now _

end Go.Proofs.Ytpammnkboogceaa.P

-- spec.l2Two: a set of two ones, by the bits of a number.
namespace Go.Proofs.Ytpammnkboogceaa.P
open Go.RowKit Go.Proofs.YtpammnkboogceaaW.PrintWords Go.Proofs.YtpammnkboogceaaW.PrintLast Go.Proofs.YtpammnkboogceaaW.PrintMore
set_option linter.unusedVariables false
set_option linter.unusedSimpArgs false

/-- The number tells the question. -/
def Tells (kind : Int) (op : Bool → Bool → Bool) : Prop := ∀ x y : Bool, ((Go.bits .and .i64 (shr .i64 kind (wrap64 ((wrap64 (2 * (if x then (1 : Int) else 0))) + (if y then (1 : Int) else 0)))) 1) == 1) = op x y
theorem idx_pos (x y : Bool) : 0 ≤ wrap64 ((wrap64 (2 * (if x then (1 : Int) else 0))) + (if y then (1 : Int) else 0)) := by
  cases x <;> cases y <;> decide +kernel
theorem two_l0 (kind : Int) (op : Bool → Bool → Bool) (hk : Tells kind op) (a b c d : List Bool) (hb : b ≠ []) (hd : d ≠ []) (ha : a.length ≤ 60) (hbl : b.length ≤ 60) (hc : c.length ≤ 60) (hdl : d.length ≤ 60) : ∀ (e i : Nat), i ≤ max a.length c.length + Nat.lcm b.length d.length → max a.length c.length + Nat.lcm b.length d.length - i = e →
    Ev (fun k => spec_l2Two.l0 k kind ((max a.length c.length : Nat) : Int) ((Nat.lcm b.length d.length : Nat) : Int) i a b c d (mkT (fun n => op (hasB a b n) (hasB c d n)) (min i (max a.length c.length))) (mkR (fun n => op (hasB a b n) (hasB c d n)) (max a.length c.length) (i - max a.length c.length))) (txt (cn fun n => op (hasB a b n) (hasB c d n))) := by
  have hp := List.length_pos_iff.2 hb
  have hp2 := List.length_pos_iff.2 hd
  have hL := lcm_small hbl hdl
  have hL0 : 0 < Nat.lcm b.length d.length := Nat.lcm_pos hp hp2
  have hper : Per (fun n => op (hasB a b n) (hasB c d n)) (max a.length c.length) (Nat.lcm b.length d.length) := pair_per ((hasB_per a b).lcm_left _ _) ((hasB_per c d).lcm_right _ _) op
  have hM : max a.length c.length ≤ 60 := by omega
  have hA : ∀ i, i ≤ 1000000 → spec_l1Has.f a b (i : Nat) = some (hasB a b i) := fun i hi => shas_f a b hb (by omega) i (by omega)
  have hC : ∀ i, i ≤ 1000000 → spec_l1Has.f c d (i : Nat) = some (hasB c d i) := fun i hi => shas_f c d hd (by omega) i (by omega)
  generalize max a.length c.length = M at *
  generalize Nat.lcm b.length d.length = L at *
  intro e
  induction e with
  | zero =>
    intro i hi he
    have e : i = M + L := by omega
    subst e
    rw [Nat.min_eq_right (by omega), Nat.add_sub_cancel_left]
    refine Ev.step (f := fun k => (spec_l1Done.f k (mkT (fun n => op (hasB a b n) (hasB c d n)) M) (mkR (fun n => op (hasB a b n) (hasB c d n)) M L)).bind fun bt363 => (some (bt363.1, bt363.2))) (fun k => ?_) (Ev.bind (done_mk hL0 hper (by omega)) (Ev.now _))
    simp only [spec_l2Two.l0]
    rw [wadd (by omega), if_neg (by omega)]
  | succ e ih =>
    intro i hi he
    have hbit : ∀ x : Bool, spec_l1Bit.f x = some (if x then (1 : Int) else 0) := fun x => by cases x <;> rfl
    have := ih (i + 1) (by omega) (by omega)
    refine Ev.step (fun k => ?_) this
    simp only [spec_l2Two.l0]
    rw [wadd (by omega), if_pos (by omega), hA i (by omega), hC i (by omega)]
    simp only [Option.bind_some, hbit]
    rw [if_pos (idx_pos _ _), hk (hasB a b i) (hasB c d i), wsucc (by omega)]
    by_cases hlt : i < M
    · rw [if_pos (by omega), if_pos (by rw [mkT_length]; omega), Nat.min_eq_left (by omega), Nat.min_eq_left (by omega), mkT_succ, show i + 1 - M = i - M by omega]
    · rw [if_neg (by omega), if_pos (by rw [mkR_length]; omega), Nat.min_eq_right (by omega), Nat.min_eq_right (by omega), show i + 1 - M = (i - M) + 1 by omega, mkR_succ, show M + (i - M) = i by omega]
theorem two_f (kind : Int) (op : Bool → Bool → Bool) (hk : Tells kind op) (s t : ByteArray) (hs : s.size ≤ 70368744177664) (ht : t.size ≤ 70368744177664) : Ev (fun k => spec_l2Two.f k s t kind) (two op (chrs s) (chrs t)) := by
  have out : ∀ a b c d, Ev (fun k => spec_l2Two.j0 k kind true a b c d) ((⟨#[]⟩ : ByteArray), false) := fun a b c d => by
    refine Ev.step (f := fun k => some ((⟨#[]⟩ : ByteArray), false)) (fun k => ?_) (Ev.now _)
    simp only [spec_l2Two.j0]; rfl
  refine Ev.congr (fun k => rfl) (Ev.bind (read_f s hs) (Ev.bind (read_f t ht) ?_))
  unfold parsed two
  cases h : parse (chrs s) with
  | none => simp only [Bool.false_eq_true, if_false, Option.isSome_none, Bool.false_and]; exact out _ _ _ _
  | some ab =>
    cases h' : parse (chrs t) with
    | none => simp only [Bool.false_eq_true, if_false, if_true, Option.isSome_none, Bool.and_false, Bool.not_false]; exact out _ _ _ _
    | some cd =>
      have q1 := parse_some (a := ab.1) (b := ab.2) h
      have q2 := parse_some (a := cd.1) (b := cd.2) h'
      have hp1 := List.length_pos_iff.2 q1.2.2
      simp only [if_true, Option.isSome_some, Bool.and_true, Bool.not_true]
      rw [setf_some (a := ab.1) (b := ab.2) h, setf_some (a := cd.1) (b := cd.2) h']
      refine Ev.step (f := fun k => (spec_l1Shape.f k ab.1 ab.2 cd.1 cd.2).bind fun bt354 => (spec_l2Two.l0 k kind bt354.1 bt354.2 0 ab.1 ab.2 cd.1 cd.2 (([] : List Bool)) (([] : List Bool)))) (fun k => ?_) (Ev.bind (shape_f ab.1 ab.2 cd.1 cd.2 (by omega) (by omega) hp1) ?_)
      · simp only [spec_l2Two.j0]; rw [if_neg (by decide)]
      · have := two_l0 kind op hk ab.1 ab.2 cd.1 cd.2 q1.2.2 q2.2.2 q1.1 q1.2.1 q2.1 q2.2.1 _ 0 (by omega) rfl
        rw [Nat.zero_min, Nat.zero_sub] at this
        exact this

end Go.Proofs.Ytpammnkboogceaa.P

-- For all arguments the law FnExactMakeOther holds.
namespace Go.Proofs.Ytpammnkboogceaa.P
open Go.RowKit Go.Proofs.YtpammnkboogceaaW.PrintWords Go.Proofs.YtpammnkboogceaaW.PrintLast Go.Proofs.YtpammnkboogceaaW.PrintMore
set_option linter.unusedVariables false
set_option linter.unusedSimpArgs false

theorem tells_other : Tells 1 (fun x y => !x && !y) := fun x y => by cases x <;> cases y <;> decide +kernel
theorem makeOther_f (s : ByteArray) (hs : s.size ≤ 70368744177664) : impl_MakeOther.f s = some (oth (chrs s)) := by unfold impl_MakeOther.f; rw [if_pos hs]
theorem smakeOther_f (s : ByteArray) (hs : s.size ≤ 70368744177664) : Ev (fun k => spec_MakeOther.f k s) (oth (chrs s)) := by
  have h := two_f 1 _ tells_other s s hs hs
  have e : two (fun x y => !x && !y) (chrs s) (chrs s) = oth (chrs s) := by
    unfold two oth
    rw [Bool.and_self]
    have : (fun n => !setf (chrs s) n && !setf (chrs s) n) = fun n => !setf (chrs s) n := funext fun n => Bool.and_self _
    rw [this]
  rw [e] at h
  exact Ev.congr (fun k => rfl) (Ev.bind h (Ev.now _))
theorem lawExactMakeOther_ev (s : ByteArray) : Ev (fun k => laws_FnExactMakeOther.f k s) true := by
  by_cases hl : (s.size : Int) > 1048576
  · refine Ev.congr (f := fun _ => some true) (fun k => ?_) (Ev.now _)
    unfold laws_FnExactMakeOther.f; rw [if_pos hl]
  · have hs : s.size ≤ 70368744177664 := by omega
    refine Ev.congr (f := fun k => (spec_MakeOther.f k s).bind fun bt402 => ((impl_MakeOther.f s).bind fun bt404 => (if bt404.1.toList = bt402.1.toList then (if (bt404.2 != bt402.2) = true then (some false) else (some true)) else (some false)))) (fun k => ?_) (Ev.bind (smakeOther_f s hs) ?_)
    · unfold laws_FnExactMakeOther.f; rw [if_neg hl]
    · rw [makeOther_f s hs]
      simp only [Option.bind_some, if_true, bne_self_eq_false, Bool.false_eq_true, if_false]
      exact Ev.now _
theorem lawExactMakeOther_pure : laws_FnExactMakeOther.Pure := fun s _ => (lawExactMakeOther_ev s).rounds
end Go.Proofs.Ytpammnkboogceaa.P

-- For all arguments the law FnExactMakeOther holds.
namespace Go.Proofs.Ytpammnkboogceaa.Pure
theorem FnExactMakeOther : Go.Proofs.Ytpammnkboogceaa.P.laws_FnExactMakeOther.Pure := Go.Proofs.Ytpammnkboogceaa.P.lawExactMakeOther_pure
end Go.Proofs.Ytpammnkboogceaa.Pure
