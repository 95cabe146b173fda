/- What these laws reach, joined by a program of this session: contracts (written by that program over the kit's print, or by hand) and plain lemmas. -/
import Derived.Test.YtaebonckcbhofaaK1
import Derived.Test.YtaebonckcbhofaaK3
import Derived.Test.YtaebonckcbhofaaK4
import Derived.Test.YtaebonckcbhofaaK5
namespace Go.Proofs.Ytaebonckcbhofaa.P
open Go.RowKit Go.Proofs.YtaebonckcbhofaaW.PrintWords Go.Proofs.YtaebonckcbhofaaW.PrintLast Go.Proofs.YtaebonckcbhofaaW.PrintMore
attribute [local go_sem] max2_int min2_int max_two min_two max_three min_three max_four min_four   -- for this text's walks alone
set_option linter.unusedVariables false
set_option linter.unusedSimpArgs false

/-! ### impl_gcd: function 69 -/
def impl_gcd.l0 : Nat → Int → Int → Option (Int)
  | 0, _, _ => none
  | k + 1, x0, x1 => if x1 = 0 then (some x0) else (impl_gcd.l0 k x1 (Int.tmod x0 x1))
def impl_gcd.f (k : Nat) (a0 : Int) (a1 : Int) : Option (Int) := impl_gcd.l0 k a0 a1
theorem impl_gcd.mono_l : ∀ k, (∀ y0 y1, LeO (impl_gcd.l0 k y0 y1) (impl_gcd.l0 (k + 1) y0 y1))
  | 0 => fun _ _ r h => by simp [impl_gcd.l0] at h
  | k + 1 => by
    have ih0 := impl_gcd.mono_l k
    · intro y0 y1
      unfold impl_gcd.l0
      repeat' first
      | (with_reducible exact ih0 _ _)
      | (with_reducible exact LeO.refl _)
      | (with_reducible exact LeO.none _)
      | (with_reducible refine LeO.ite ?_ ?_)
      | (with_reducible refine LeO.bind ?_ (fun _ => ?_))
      | exact ih0 _ _
      | exact LeO.none _
      | refine LeO.ite ?_ ?_
      | refine LeO.bind ?_ (fun _ => ?_)
theorem impl_gcd.mono : ∀ a0 a1 k, LeO (impl_gcd.f k a0 a1) (impl_gcd.f (k + 1) a0 a1) := by
  intro a0 a1 k
  have ih0 := impl_gcd.mono_l k
  unfold impl_gcd.f
  repeat' first
      | (with_reducible exact ih0 _ _)
      | (with_reducible exact LeO.refl _)
      | (with_reducible exact LeO.none _)
      | (with_reducible refine LeO.ite ?_ ?_)
      | (with_reducible refine LeO.bind ?_ (fun _ => ?_))
      | exact ih0 _ _
      | exact LeO.none _
      | refine LeO.ite ?_ ?_
      | refine LeO.bind ?_ (fun _ => ?_)
set_option maxHeartbeats 8000000 in
set_option maxRecDepth 100000 in
theorem impl_gcd.calls (k : Nat) (a0 : Int) (a1 : Int) (r : Int) (w : World) (h : impl_gcd.f k a0 a1 = some r) :
    Calls Try.prog 69 #[.int .i64 a0, .int .i64 a1] w fun e w' => e = .returned (.int .i64 r) ∧ Drawn0 w w' := by
  have H : (impl_gcd.l0 k a0 a1) = some r := h
  clear h
  have H' := Aside0.mk H
  clear H
  go_enter Try.func69, Try.ntmps69
  go_wp2
  repeat (go_quiet (fail); try go_wp2)
  go_loopg [0, 1] k (fun kq v0 v1 w' => ∃ (x0_1 : Int) (x1_1 : Int), v0 = .int .i64 x0_1 ∧ v1 = .int .i64 x1_1 ∧ Aside0 (impl_gcd.l0 kq x0_1 x1_1 = some r) ∧ Aside0 (kq ≤ k) ∧ Drawn0 w w')
  case atStart => exact ⟨(a0), (a1), (by first | rfl | (simp; done) | (simp [*]; done) | (simp [Int.tmod_eq_emod_of_nonneg]; done)), (by first | rfl | (simp; done) | (simp [*]; done) | (simp [Int.tmod_eq_emod_of_nonneg]; done)), H', ⟨Nat.le_refl _⟩, by repeat (first | exact Drawn0.refl _ | apply Drawn0.step)⟩
  case round =>
    clear H'
    try clear p2
    obtain ⟨x0_1, x1_1, rfl, rfl, HA, HK1, ⟨m1, rfl⟩⟩ := hrel
    cases gk with
    | zero => exact absurd HA.out (by simp [impl_gcd.l0])
    | succ k1 =>
      have H := HA.out
      clear HA
      simp only [impl_gcd.l0] at H
      by_cases c3 : x1_1 = 0
      · rw [if_pos c3] at H
        have c3b0 : (x1_1 == 0) = true := beq_iff_eq.mpr c3
        have c3b1 : (x1_1 != 0) = false := bne_eq_false_iff_eq.mpr c3
        clear c3
        obtain rfl := Option.some.inj H
        go_wp2
        repeat (go_quiet (fail); try go_wp2)
        go_ret
        exact ⟨by first | rfl | (simp; done) | (simp [*]; done), by repeat (first | exact Drawn0.refl _ | apply Drawn0.step)⟩
      · rw [if_neg c3] at H
        have c3b0 : (x1_1 == 0) = false := beq_eq_false_iff_ne.mpr c3
        have c3b1 : (x1_1 != 0) = true := bne_iff_ne.mpr c3
        have H' := Aside0.mk H
        clear H
        go_wp2
        repeat (go_quiet (fail); try go_wp2)
        go_roundg k1
        case measure => have := HK1.out; omega
        case rel => exact ⟨(x1_1), (Int.tmod x0_1 x1_1), (by first | rfl | (simp; done) | (simp [*]; done) | (simp [Int.tmod_eq_emod_of_nonneg]; done)), (by first | rfl | (simp; done) | (simp [*]; done) | (simp [Int.tmod_eq_emod_of_nonneg]; done)), H', ⟨by have := HK1.out; omega⟩, by repeat (first | exact Drawn0.refl _ | apply Drawn0.step)⟩

end Go.Proofs.Ytaebonckcbhofaa.P

namespace Go.Proofs.Ytaebonckcbhofaa.P
open Go.RowKit Go.Proofs.YtaebonckcbhofaaW.PrintWords Go.Proofs.YtaebonckcbhofaaW.PrintLast Go.Proofs.YtaebonckcbhofaaW.PrintMore
attribute [local go_sem] max2_int min2_int max_two min_two max_three min_three max_four min_four   -- for this text's walks alone
set_option linter.unusedVariables false
set_option linter.unusedSimpArgs false

/-! ### impl_lcm: function 37 -/
def impl_lcm.f (k : Nat) (a0 : Int) (a1 : Int) : Option (Int) := (impl_gcd.f k a0 a1).bind fun t396 => (if t396 = 0 then (none) else (some (wrap64 ((wrap64 (Int.tdiv a0 t396)) * a1))))
theorem impl_lcm.mono : ∀ a0 a1 k, LeO (impl_lcm.f k a0 a1) (impl_lcm.f (k + 1) a0 a1) := by
  intro a0 a1 k
  unfold impl_lcm.f
  repeat' first
      | (with_reducible exact impl_gcd.mono _ _ _)
      | (with_reducible exact LeO.refl _)
      | (with_reducible exact LeO.none _)
      | (with_reducible refine LeO.ite ?_ ?_)
      | (with_reducible refine LeO.bind ?_ (fun _ => ?_))
      | exact impl_gcd.mono _ _ _
      | exact LeO.none _
      | refine LeO.ite ?_ ?_
      | refine LeO.bind ?_ (fun _ => ?_)
set_option maxHeartbeats 8000000 in
set_option maxRecDepth 100000 in
theorem impl_lcm.calls (k : Nat) (a0 : Int) (a1 : Int) (r : Int) (w : World) (h : impl_lcm.f k a0 a1 = some r) :
    Calls Try.prog 37 #[.int .i64 a0, .int .i64 a1] w fun e w' => e = .returned (.int .i64 r) ∧ Drawn0 w w' := by
  have H : ((impl_gcd.f k a0 a1).bind fun t396 => (if t396 = 0 then (none) else (some (wrap64 ((wrap64 (Int.tdiv a0 t396)) * a1))))) = some r := h
  clear h
  replace H := Option.bind_eq_some_iff.mp H
  obtain ⟨t396, A30, H⟩ := H
  replace H : (if t396 = 0 then (none) else (some (wrap64 ((wrap64 (Int.tdiv a0 t396)) * a1)))) = some r := H
  have A3 := Aside0.mk A30
  clear A30
  by_cases c4 : t396 = 0
  · rw [if_pos c4] at H
    exact absurd H (by simp)
  · rw [if_neg c4] at H
    have c4b0 : (t396 == 0) = false := beq_eq_false_iff_ne.mpr c4
    have c4b1 : (t396 != 0) = true := bne_iff_ne.mpr c4
    obtain rfl := Option.some.inj H
    go_enter Try.func37, Try.ntmps37
    go_wp2_with (first | ((with_reducible refine gate_callee (f := 69) rfl ?_); refine goesL_ (some 8) rfl rfl Try.func69 (by kernel_rfl) rfl #[.int .i64 a0, .int .i64 a1] rfl (by (try simp only [List.map_toArray, List.map_cons, List.map_nil]); first | done | rfl | (simp only [List.length_drop, List.length_take]; rfl)) ?_; (with_reducible refine (impl_gcd.calls k a0 a1 t396 _ A3.out).mono ?_); rintro e w' ⟨rfl, ⟨nd, rfl⟩⟩; refine ⟨_, rfl, ?_⟩))
    go_ret
    exact ⟨by first | rfl | (simp; done) | (simp [*]; done), by repeat (first | exact Drawn0.refl _ | apply Drawn0.step)⟩

end Go.Proofs.Ytaebonckcbhofaa.P

namespace Go.Proofs.Ytaebonckcbhofaa.P
open Go.RowKit Go.Proofs.YtaebonckcbhofaaW.PrintWords Go.Proofs.YtaebonckcbhofaaW.PrintLast Go.Proofs.YtaebonckcbhofaaW.PrintMore
attribute [local go_sem] max2_int min2_int max_two min_two max_three min_three max_four min_four   -- for this text's walks alone
set_option linter.unusedVariables false
set_option linter.unusedSimpArgs false

/-! ### impl_sums: function 39 -/
def impl_sums.l0 : Nat → Int → Int → Int → List Bool → List Bool → List Bool → List Bool → Option (Bool)
  | 0, _, _, _, _, _, _, _ => none
  | k + 1, x2, x9, x10, x398000, x398001, x399000, x399001 => if x10 < x9 then ((impl_set_has.f x398000 x398001 x10).bind fun t399 => (if t399 = true then ((impl_set_has.f x399000 x399001 (wrap64 (x2 - x10))).bind fun t400 => (if t400 = true then (some true) else (impl_sums.l0 k x2 x9 (wrap64 (x10 + 1)) x398000 x398001 x399000 x399001))) else (impl_sums.l0 k x2 x9 (wrap64 (x10 + 1)) x398000 x398001 x399000 x399001))) else (some false)
def impl_sums.f (k : Nat) (l0_0 : List Bool) (l0_1 : List Bool) (l1_0 : List Bool) (l1_1 : List Bool) (a2 : Int) : Option (Bool) := impl_sums.l0 k a2 (wrap64 (a2 + 1)) 0 l0_0 l0_1 l1_0 l1_1
theorem impl_sums.mono_l : ∀ k, (∀ y0 y1 y2 y3 y4 y5 y6, LeO (impl_sums.l0 k y0 y1 y2 y3 y4 y5 y6) (impl_sums.l0 (k + 1) y0 y1 y2 y3 y4 y5 y6))
  | 0 => fun _ _ _ _ _ _ _ r h => by simp [impl_sums.l0] at h
  | k + 1 => by
    have ih0 := impl_sums.mono_l k
    · intro y0 y1 y2 y3 y4 y5 y6
      unfold impl_sums.l0
      repeat' first
      | (with_reducible exact ih0 _ _ _ _ _ _ _)
      | (with_reducible exact LeO.refl _)
      | (with_reducible exact LeO.none _)
      | (with_reducible refine LeO.ite ?_ ?_)
      | (with_reducible refine LeO.bind ?_ (fun _ => ?_))
      | exact ih0 _ _ _ _ _ _ _
      | exact LeO.none _
      | refine LeO.ite ?_ ?_
      | refine LeO.bind ?_ (fun _ => ?_)
theorem impl_sums.mono : ∀ a0 a1 a2 a3 a4 k, LeO (impl_sums.f k a0 a1 a2 a3 a4) (impl_sums.f (k + 1) a0 a1 a2 a3 a4) := by
  intro a0 a1 a2 a3 a4 k
  have ih0 := impl_sums.mono_l k
  unfold impl_sums.f
  repeat' first
      | (with_reducible exact ih0 _ _ _ _ _ _ _)
      | (with_reducible exact LeO.refl _)
      | (with_reducible exact LeO.none _)
      | (with_reducible refine LeO.ite ?_ ?_)
      | (with_reducible refine LeO.bind ?_ (fun _ => ?_))
      | exact ih0 _ _ _ _ _ _ _
      | exact LeO.none _
      | refine LeO.ite ?_ ?_
      | refine LeO.bind ?_ (fun _ => ?_)
set_option maxHeartbeats 8000000 in
set_option maxRecDepth 100000 in
theorem impl_sums.calls (k : Nat) (A0_0 : Option Addr) (c0_0 : Nat) (l0_0 : List Bool) (A0_1 : Option Addr) (c0_1 : Nat) (l0_1 : List Bool) (A1_0 : Option Addr) (c1_0 : Nat) (l1_0 : List Bool) (A1_1 : Option Addr) (c1_1 : Nat) (l1_1 : List Bool) (a2 : Int) (r : Bool) (w : World) (hr0_0 : Kd.C Kd.bool w A0_0 l0_0.length l0_0) (hc0_0 : l0_0.length ≤ c0_0) (hr0_1 : Kd.C Kd.bool w A0_1 l0_1.length l0_1) (hc0_1 : l0_1.length ≤ c0_1) (hr1_0 : Kd.C Kd.bool w A1_0 l1_0.length l1_0) (hc1_0 : l1_0.length ≤ c1_0) (hr1_1 : Kd.C Kd.bool w A1_1 l1_1.length l1_1) (hc1_1 : l1_1.length ≤ c1_1) (h : impl_sums.f k l0_0 l0_1 l1_0 l1_1 a2 = some r) :
    Calls Try.prog 39 #[.agg #[.slice A0_0 l0_0.length c0_0, .slice A0_1 l0_1.length c0_1], .agg #[.slice A1_0 l1_0.length c1_0, .slice A1_1 l1_1.length c1_1], .int .i64 a2] w fun e w' => e = .returned (.bool r) ∧ Below w.heap.size w w' := by
  have hu42 := Try.underlying42
  have HR0_0 := Aside0.mk hr0_0
  have HC0_0 := Aside0.mk hc0_0
  clear hr0_0 hc0_0
  have HR0_1 := Aside0.mk hr0_1
  have HC0_1 := Aside0.mk hc0_1
  clear hr0_1 hc0_1
  have HR1_0 := Aside0.mk hr1_0
  have HC1_0 := Aside0.mk hc1_0
  clear hr1_0 hc1_0
  have HR1_1 := Aside0.mk hr1_1
  have HC1_1 := Aside0.mk hc1_1
  clear hr1_1 hc1_1
  have HB := Aside0.mk (Below.refl w.heap.size w)
  have H : (impl_sums.l0 k a2 (wrap64 (a2 + 1)) 0 l0_0 l0_1 l1_0 l1_1) = some r := h
  clear h
  have H' := Aside0.mk H
  clear H
  go_enter Try.func39, Try.ntmps39
  go_wp2_with (first | ((with_reducible refine gate_dst (N := 3) rfl ?_); refine box_event ?hg (N := 3) ?hd (cs := #[.slice A0_0 l0_0.length c0_0, .slice A0_1 l0_1.length c0_1]) (t := 42) ?hr ?_; (case hd => rfl); (case hg => rfl); (case hr => first | (go_simp; done) | (go_simp; rfl)); intro gb397 hg w4 hbox hb; have n0_ := Aside0.mk (below_step (by repeat (first | (with_reducible first | exact HB.out | apply below_alloc | apply pw_below_drewN | apply below_drew1) | exact HB.out)) hb); have n1_ := Aside0.mk (hbox); have n2_ := Aside0.mk ((by rw [hg]; exact (below_size (by repeat (first | (with_reducible first | exact HB.out | apply below_alloc | apply pw_below_drewN | apply below_drew1) | exact HB.out))) : w.heap.size ≤ gb397)); have n3_ := Aside0.mk ((by rw [hg]; exact (below_size (by repeat (first | (with_reducible first | exact HB.out | apply below_alloc | apply pw_below_drewN | apply below_drew1) | exact HB.out))) : w.heap.size ≤ gb397)); clear HB; have HB := n0_; have BK397 := n1_; have GW397 := n2_; have GE397 := n3_; clear n0_ n1_ n2_ n3_; clear hb hbox hg) | ((with_reducible refine gate_dst (N := 4) rfl ?_); refine box_event ?hg (N := 4) ?hd (cs := #[.slice A1_0 l1_0.length c1_0, .slice A1_1 l1_1.length c1_1]) (t := 42) ?hr ?_; (case hd => rfl); (case hg => rfl); (case hr => first | (go_simp; done) | (go_simp; rfl)); intro gb398 hg w5 hbox hb; have n0_ := Aside0.mk (blk_below (g := gb397) (o := .cells #[.slice A0_0 l0_0.length c0_0, .slice A0_1 l0_1.length c0_1] 42 (0, 0)) (by (with_reducible repeat (first | refine blk_drewN ?_ _ | refine blk_drew ?_ | refine blk_alloc ?_ _)); exact BK397.out) hb); have n1_ := Aside0.mk (below_step (by repeat (first | (with_reducible first | exact HB.out | apply below_alloc | apply pw_below_drewN | apply below_drew1 | refine below_set ?_ GE397.out) | exact HB.out)) hb); have n2_ := Aside0.mk (hbox); have n3_ := Aside0.mk ((by rw [hg]; exact (below_size (by repeat (first | (with_reducible first | exact HB.out | apply below_alloc | apply pw_below_drewN | apply below_drew1 | refine below_set ?_ GE397.out) | exact HB.out))) : w.heap.size ≤ gb398)); have n4_ := Aside0.mk ((by rw [hg]; exact (below_size (by repeat (first | (with_reducible first | exact HB.out | apply below_alloc | apply pw_below_drewN | apply below_drew1 | refine below_set ?_ GE397.out) | exact HB.out))) : w.heap.size ≤ gb398)); have n5_ := Aside0.mk ((by rw [hg]; exact Nat.ne_of_lt (blk_lt (g := gb397) (o := .cells #[.slice A0_0 l0_0.length c0_0, .slice A0_1 l0_1.length c0_1] 42 (0, 0)) (by (with_reducible repeat (first | refine blk_drewN ?_ _ | refine blk_drew ?_ | refine blk_alloc ?_ _)); exact BK397.out)) : gb397 ≠ gb398)); have n6_ := Aside0.mk ((by rw [hg]; exact Nat.ne_of_gt (blk_lt (g := gb397) (o := .cells #[.slice A0_0 l0_0.length c0_0, .slice A0_1 l0_1.length c0_1] 42 (0, 0)) (by (with_reducible repeat (first | refine blk_drewN ?_ _ | refine blk_drew ?_ | refine blk_alloc ?_ _)); exact BK397.out)) : gb398 ≠ gb397)); clear BK397; clear HB; have BK397 := n0_; have HB := n1_; have BK398 := n2_; have GW398 := n3_; have GE398 := n4_; have NB397_398 := n5_; have NB398_397 := n6_; clear n0_ n1_ n2_ n3_ n4_ n5_ n6_; clear hb hbox hg))
  go_loopg [10] k (fun kq v10 w' => ∃ (x10_1 : Int), v10 = .int .i64 x10_1 ∧ Aside0 (impl_sums.l0 kq a2 (wrap64 (a2 + 1)) x10_1 l0_0 l0_1 l1_0 l1_1 = some r) ∧ Aside0 (kq ≤ k) ∧ Aside0 (w'.heap[gb397]? = some (.cells #[(.slice A0_0 l0_0.length c0_0), (.slice A0_1 l0_1.length c0_1)] 42 (0, 0))) ∧ Aside0 (w'.heap[gb398]? = some (.cells #[(.slice A1_0 l1_0.length c1_0), (.slice A1_1 l1_1.length c1_1)] 42 (0, 0))) ∧ Aside0 (Below w.heap.size w w'))
  case atStart => exact ⟨(0), (by first | rfl | (simp; done) | (simp [*]; done) | (simp [Int.tmod_eq_emod_of_nonneg]; done)), H', ⟨Nat.le_refl _⟩, ⟨by (with_reducible repeat (first | refine blk_drewN ?_ _ | refine blk_drew ?_ | refine blk_alloc ?_ _)); exact BK397.out⟩, ⟨by (with_reducible repeat (first | refine blk_drewN ?_ _ | refine blk_drew ?_ | refine blk_alloc ?_ _)); exact BK398.out⟩, ⟨by repeat (first | (with_reducible first | exact HB.out | apply below_alloc | apply pw_below_drewN | apply below_drew1 | refine below_set ?_ GE397.out | refine below_set ?_ GE398.out) | exact HB.out)⟩⟩
  case round =>
    clear H'
    try clear c1
    try clear p2
    try clear c3
    obtain ⟨x10_1, rfl, HA, HK1, BK397, BK398, HB⟩ := hrel
    cases gk with
    | zero => exact absurd HA.out (by simp [impl_sums.l0])
    | succ k1 =>
      have H := HA.out
      clear HA
      simp only [impl_sums.l0] at H
      by_cases c6 : x10_1 < (wrap64 (a2 + 1))
      · rw [if_pos c6] at H
        have c6b0 : decide (x10_1 < (wrap64 (a2 + 1))) = true := decide_eq_true c6
        clear c6
        replace H := Option.bind_eq_some_iff.mp H
        obtain ⟨t399, A70, H⟩ := H
        replace H : (if t399 = true then ((impl_set_has.f l1_0 l1_1 (wrap64 (a2 - x10_1))).bind fun t400 => (if t400 = true then (some true) else (impl_sums.l0 k1 a2 (wrap64 (a2 + 1)) (wrap64 (x10_1 + 1)) l0_0 l0_1 l1_0 l1_1))) else (impl_sums.l0 k1 a2 (wrap64 (a2 + 1)) (wrap64 (x10_1 + 1)) l0_0 l0_1 l1_0 l1_1)) = some r := H
        have A7 := Aside0.mk A70
        clear A70
        by_cases c8 : t399 = true
        · subst c8
          have H1 : ((impl_set_has.f l1_0 l1_1 (wrap64 (a2 - x10_1))).bind fun t400 => (if t400 = true then (some true) else (impl_sums.l0 k1 a2 (wrap64 (a2 + 1)) (wrap64 (x10_1 + 1)) l0_0 l0_1 l1_0 l1_1))) = some r := by rw [if_pos rfl] at H; exact H
          clear H
          have H := H1
          clear H1
          replace H := Option.bind_eq_some_iff.mp H
          obtain ⟨t400, A90, H⟩ := H
          replace H : (if t400 = true then (some true) else (impl_sums.l0 k1 a2 (wrap64 (a2 + 1)) (wrap64 (x10_1 + 1)) l0_0 l0_1 l1_0 l1_1)) = some r := H
          have A9 := Aside0.mk A90
          clear A90
          by_cases c10 : t400 = true
          · subst c10
            have H1 : (some true) = some r := by rw [if_pos rfl] at H; exact H
            clear H
            have H := H1
            clear H1
            obtain rfl := Option.some.inj H
            have hnb11 := NB397_398.out
            have hnc11 := NB398_397.out
            have hcz12_0 : wr.cell? ⟨gb397, 0, none⟩ = some (.slice A0_0 l0_0.length c0_0) := (blk_cell BK397.out 0).trans rfl
            have hcz12_1 : wr.cell? ⟨gb397, 1, none⟩ = some (.slice A0_1 l0_1.length c0_1) := (blk_cell BK397.out 1).trans rfl
            have hfz12_0 := blk_frozen BK397.out 0
            have hfz12_1 := blk_frozen BK397.out 1
            go_wp2_with (first | ((with_reducible refine gate_callee (f := 33) rfl ?_); refine goesL_ (some 15) rfl rfl Try.func33 (by kernel_rfl) rfl #[.agg #[.slice A0_0 l0_0.length c0_0, .slice A0_1 l0_1.length c0_1], .int .i64 x10_1] rfl (by (try simp only [List.map_toArray, List.map_cons, List.map_nil]); first | done | rfl | (simp only [List.length_drop, List.length_take]; rfl)) ?_; (with_reducible refine (impl_set_has.calls _ _ l0_0 _ _ l0_1 x10_1 true _ ?side1 ?side2 ?side3 ?side4 A7.out).mono ?_); (case side1 => repeat (first | exact (Kd.C_below HR0_0.out HB.out) | (with_reducible refine Kd.C_alloc ?_ _) | (with_reducible refine Kd.C_drewN ?_ _) | (with_reducible refine Kd.C_drew ?_))); (case side2 => exact HC0_0.out); (case side3 => repeat (first | exact (Kd.C_below HR0_1.out HB.out) | (with_reducible refine Kd.C_alloc ?_ _) | (with_reducible refine Kd.C_drewN ?_ _) | (with_reducible refine Kd.C_drew ?_))); (case side4 => exact HC0_1.out); rintro e w13 ⟨rfl, hb⟩; refine ⟨_, rfl, ?_⟩; have n0_ := Aside0.mk (blk_below (g := gb397) (o := .cells #[.slice A0_0 l0_0.length c0_0, .slice A0_1 l0_1.length c0_1] 42 (0, 0)) (by (with_reducible repeat (first | refine blk_drewN ?_ _ | refine blk_drew ?_ | refine blk_alloc ?_ _)); exact BK397.out) hb); have n1_ := Aside0.mk (blk_below (g := gb398) (o := .cells #[.slice A1_0 l1_0.length c1_0, .slice A1_1 l1_1.length c1_1] 42 (0, 0)) (by (with_reducible repeat (first | refine blk_drewN ?_ _ | refine blk_drew ?_ | refine blk_alloc ?_ _)); exact BK398.out) hb); have n2_ := Aside0.mk (below_step (by repeat (first | (with_reducible first | exact HB.out | apply below_alloc | apply pw_below_drewN | apply below_drew1 | refine below_set ?_ GE397.out | refine below_set ?_ GE398.out) | exact HB.out)) hb); clear BK397; clear BK398; clear HB; have BK397 := n0_; have BK398 := n1_; have HB := n2_; clear n0_ n1_ n2_; (try clear hb); (try clear hb2); (try clear hk); (try clear hi); have hcz14_0 : w13.cell? ⟨gb398, 0, none⟩ = some (.slice A1_0 l1_0.length c1_0) := (blk_cell BK398.out 0).trans rfl; have hcz14_1 : w13.cell? ⟨gb398, 1, none⟩ = some (.slice A1_1 l1_1.length c1_1) := (blk_cell BK398.out 1).trans rfl; have hfz14_0 := blk_frozen BK398.out 0; have hfz14_1 := blk_frozen BK398.out 1) | (go_at_call 33; (with_reducible refine (impl_set_has.calls _ _ l1_0 _ _ l1_1 (wrap64 (a2 - x10_1)) true _ ?side1 ?side2 ?side3 ?side4 A9.out).mono ?_); (case side1 => repeat (first | exact (Kd.C_below HR1_0.out HB.out) | (with_reducible refine Kd.C_alloc ?_ _) | (with_reducible refine Kd.C_drewN ?_ _) | (with_reducible refine Kd.C_drew ?_))); (case side2 => exact HC1_0.out); (case side3 => repeat (first | exact (Kd.C_below HR1_1.out HB.out) | (with_reducible refine Kd.C_alloc ?_ _) | (with_reducible refine Kd.C_drewN ?_ _) | (with_reducible refine Kd.C_drew ?_))); (case side4 => exact HC1_1.out); rintro e w15 ⟨rfl, hb⟩; have n0_ := Aside0.mk (blk_below (g := gb397) (o := .cells #[.slice A0_0 l0_0.length c0_0, .slice A0_1 l0_1.length c0_1] 42 (0, 0)) (by (with_reducible repeat (first | refine blk_drewN ?_ _ | refine blk_drew ?_ | refine blk_alloc ?_ _)); exact BK397.out) hb); have n1_ := Aside0.mk (blk_below (g := gb398) (o := .cells #[.slice A1_0 l1_0.length c1_0, .slice A1_1 l1_1.length c1_1] 42 (0, 0)) (by (with_reducible repeat (first | refine blk_drewN ?_ _ | refine blk_drew ?_ | refine blk_alloc ?_ _)); exact BK398.out) hb); have n2_ := Aside0.mk (below_step (by repeat (first | (with_reducible first | exact HB.out | apply below_alloc | apply pw_below_drewN | apply below_drew1 | refine below_set ?_ GE397.out | refine below_set ?_ GE398.out) | exact HB.out)) hb); clear BK397; clear BK398; clear HB; have BK397 := n0_; have BK398 := n1_; have HB := n2_; clear n0_ n1_ n2_; (try clear hb); (try clear hb2); (try clear hk); (try clear hi)))
            go_ret
            exact ⟨by first | rfl | (simp [errW_none, errW_some] <;> rfl) | (simp [*, errW_none, errW_some] <;> rfl) | (simp [errW_none, errW_some]; exact ⟨rfl, rfl⟩), by repeat (first | (with_reducible first | exact HB.out | apply below_alloc | apply pw_below_drewN | apply below_drew1 | refine below_set ?_ GE397.out | refine below_set ?_ GE398.out) | exact HB.out)⟩
          · replace c10 := Bool.eq_false_iff.mpr c10
            subst c10
            have H1 : (impl_sums.l0 k1 a2 (wrap64 (a2 + 1)) (wrap64 (x10_1 + 1)) l0_0 l0_1 l1_0 l1_1) = some r := by rw [if_neg (show ¬ (false = true) by decide)] at H; exact H
            clear H
            have H := H1
            clear H1
            have H' := Aside0.mk H
            clear H
            have hnb16 := NB397_398.out
            have hnc16 := NB398_397.out
            have hcz17_0 : wr.cell? ⟨gb397, 0, none⟩ = some (.slice A0_0 l0_0.length c0_0) := (blk_cell BK397.out 0).trans rfl
            have hcz17_1 : wr.cell? ⟨gb397, 1, none⟩ = some (.slice A0_1 l0_1.length c0_1) := (blk_cell BK397.out 1).trans rfl
            have hfz17_0 := blk_frozen BK397.out 0
            have hfz17_1 := blk_frozen BK397.out 1
            go_wp2_with (first | ((with_reducible refine gate_callee (f := 33) rfl ?_); refine goesL_ (some 15) rfl rfl Try.func33 (by kernel_rfl) rfl #[.agg #[.slice A0_0 l0_0.length c0_0, .slice A0_1 l0_1.length c0_1], .int .i64 x10_1] rfl (by (try simp only [List.map_toArray, List.map_cons, List.map_nil]); first | done | rfl | (simp only [List.length_drop, List.length_take]; rfl)) ?_; (with_reducible refine (impl_set_has.calls _ _ l0_0 _ _ l0_1 x10_1 true _ ?side1 ?side2 ?side3 ?side4 A7.out).mono ?_); (case side1 => repeat (first | exact (Kd.C_below HR0_0.out HB.out) | (with_reducible refine Kd.C_alloc ?_ _) | (with_reducible refine Kd.C_drewN ?_ _) | (with_reducible refine Kd.C_drew ?_))); (case side2 => exact HC0_0.out); (case side3 => repeat (first | exact (Kd.C_below HR0_1.out HB.out) | (with_reducible refine Kd.C_alloc ?_ _) | (with_reducible refine Kd.C_drewN ?_ _) | (with_reducible refine Kd.C_drew ?_))); (case side4 => exact HC0_1.out); rintro e w18 ⟨rfl, hb⟩; refine ⟨_, rfl, ?_⟩; have n0_ := Aside0.mk (blk_below (g := gb397) (o := .cells #[.slice A0_0 l0_0.length c0_0, .slice A0_1 l0_1.length c0_1] 42 (0, 0)) (by (with_reducible repeat (first | refine blk_drewN ?_ _ | refine blk_drew ?_ | refine blk_alloc ?_ _)); exact BK397.out) hb); have n1_ := Aside0.mk (blk_below (g := gb398) (o := .cells #[.slice A1_0 l1_0.length c1_0, .slice A1_1 l1_1.length c1_1] 42 (0, 0)) (by (with_reducible repeat (first | refine blk_drewN ?_ _ | refine blk_drew ?_ | refine blk_alloc ?_ _)); exact BK398.out) hb); have n2_ := Aside0.mk (below_step (by repeat (first | (with_reducible first | exact HB.out | apply below_alloc | apply pw_below_drewN | apply below_drew1 | refine below_set ?_ GE397.out | refine below_set ?_ GE398.out) | exact HB.out)) hb); clear BK397; clear BK398; clear HB; have BK397 := n0_; have BK398 := n1_; have HB := n2_; clear n0_ n1_ n2_; (try clear hb); (try clear hb2); (try clear hk); (try clear hi); have hcz19_0 : w18.cell? ⟨gb398, 0, none⟩ = some (.slice A1_0 l1_0.length c1_0) := (blk_cell BK398.out 0).trans rfl; have hcz19_1 : w18.cell? ⟨gb398, 1, none⟩ = some (.slice A1_1 l1_1.length c1_1) := (blk_cell BK398.out 1).trans rfl; have hfz19_0 := blk_frozen BK398.out 0; have hfz19_1 := blk_frozen BK398.out 1) | (go_at_call 33; (with_reducible refine (impl_set_has.calls _ _ l1_0 _ _ l1_1 (wrap64 (a2 - x10_1)) false _ ?side1 ?side2 ?side3 ?side4 A9.out).mono ?_); (case side1 => repeat (first | exact (Kd.C_below HR1_0.out HB.out) | (with_reducible refine Kd.C_alloc ?_ _) | (with_reducible refine Kd.C_drewN ?_ _) | (with_reducible refine Kd.C_drew ?_))); (case side2 => exact HC1_0.out); (case side3 => repeat (first | exact (Kd.C_below HR1_1.out HB.out) | (with_reducible refine Kd.C_alloc ?_ _) | (with_reducible refine Kd.C_drewN ?_ _) | (with_reducible refine Kd.C_drew ?_))); (case side4 => exact HC1_1.out); rintro e w20 ⟨rfl, hb⟩; have n0_ := Aside0.mk (blk_below (g := gb397) (o := .cells #[.slice A0_0 l0_0.length c0_0, .slice A0_1 l0_1.length c0_1] 42 (0, 0)) (by (with_reducible repeat (first | refine blk_drewN ?_ _ | refine blk_drew ?_ | refine blk_alloc ?_ _)); exact BK397.out) hb); have n1_ := Aside0.mk (blk_below (g := gb398) (o := .cells #[.slice A1_0 l1_0.length c1_0, .slice A1_1 l1_1.length c1_1] 42 (0, 0)) (by (with_reducible repeat (first | refine blk_drewN ?_ _ | refine blk_drew ?_ | refine blk_alloc ?_ _)); exact BK398.out) hb); have n2_ := Aside0.mk (below_step (by repeat (first | (with_reducible first | exact HB.out | apply below_alloc | apply pw_below_drewN | apply below_drew1 | refine below_set ?_ GE397.out | refine below_set ?_ GE398.out) | exact HB.out)) hb); clear BK397; clear BK398; clear HB; have BK397 := n0_; have BK398 := n1_; have HB := n2_; clear n0_ n1_ n2_; (try clear hb); (try clear hb2); (try clear hk); (try clear hi)))
            go_roundg k1
            case measure => have := HK1.out; omega
            case rel => exact ⟨(wrap64 (x10_1 + 1)), (by first | rfl | (simp; done) | (simp [*]; done) | (simp [Int.tmod_eq_emod_of_nonneg]; done)), H', ⟨by have := HK1.out; omega⟩, ⟨by (with_reducible repeat (first | refine blk_drewN ?_ _ | refine blk_drew ?_ | refine blk_alloc ?_ _)); exact BK397.out⟩, ⟨by (with_reducible repeat (first | refine blk_drewN ?_ _ | refine blk_drew ?_ | refine blk_alloc ?_ _)); exact BK398.out⟩, ⟨by repeat (first | (with_reducible first | exact HB.out | apply below_alloc | apply pw_below_drewN | apply below_drew1 | refine below_set ?_ GE397.out | refine below_set ?_ GE398.out) | exact HB.out)⟩⟩
        · replace c8 := Bool.eq_false_iff.mpr c8
          subst c8
          have H1 : (impl_sums.l0 k1 a2 (wrap64 (a2 + 1)) (wrap64 (x10_1 + 1)) l0_0 l0_1 l1_0 l1_1) = some r := by rw [if_neg (show ¬ (false = true) by decide)] at H; exact H
          clear H
          have H := H1
          clear H1
          have H' := Aside0.mk H
          clear H
          have hnb21 := NB397_398.out
          have hnc21 := NB398_397.out
          have hcz22_0 : wr.cell? ⟨gb397, 0, none⟩ = some (.slice A0_0 l0_0.length c0_0) := (blk_cell BK397.out 0).trans rfl
          have hcz22_1 : wr.cell? ⟨gb397, 1, none⟩ = some (.slice A0_1 l0_1.length c0_1) := (blk_cell BK397.out 1).trans rfl
          have hfz22_0 := blk_frozen BK397.out 0
          have hfz22_1 := blk_frozen BK397.out 1
          go_wp2_with (first | ((with_reducible refine gate_callee (f := 33) rfl ?_); refine goesL_ (some 15) rfl rfl Try.func33 (by kernel_rfl) rfl #[.agg #[.slice A0_0 l0_0.length c0_0, .slice A0_1 l0_1.length c0_1], .int .i64 x10_1] rfl (by (try simp only [List.map_toArray, List.map_cons, List.map_nil]); first | done | rfl | (simp only [List.length_drop, List.length_take]; rfl)) ?_; (with_reducible refine (impl_set_has.calls _ _ l0_0 _ _ l0_1 x10_1 false _ ?side1 ?side2 ?side3 ?side4 A7.out).mono ?_); (case side1 => repeat (first | exact (Kd.C_below HR0_0.out HB.out) | (with_reducible refine Kd.C_alloc ?_ _) | (with_reducible refine Kd.C_drewN ?_ _) | (with_reducible refine Kd.C_drew ?_))); (case side2 => exact HC0_0.out); (case side3 => repeat (first | exact (Kd.C_below HR0_1.out HB.out) | (with_reducible refine Kd.C_alloc ?_ _) | (with_reducible refine Kd.C_drewN ?_ _) | (with_reducible refine Kd.C_drew ?_))); (case side4 => exact HC0_1.out); rintro e w23 ⟨rfl, hb⟩; refine ⟨_, rfl, ?_⟩; have n0_ := Aside0.mk (blk_below (g := gb397) (o := .cells #[.slice A0_0 l0_0.length c0_0, .slice A0_1 l0_1.length c0_1] 42 (0, 0)) (by (with_reducible repeat (first | refine blk_drewN ?_ _ | refine blk_drew ?_ | refine blk_alloc ?_ _)); exact BK397.out) hb); have n1_ := Aside0.mk (blk_below (g := gb398) (o := .cells #[.slice A1_0 l1_0.length c1_0, .slice A1_1 l1_1.length c1_1] 42 (0, 0)) (by (with_reducible repeat (first | refine blk_drewN ?_ _ | refine blk_drew ?_ | refine blk_alloc ?_ _)); exact BK398.out) hb); have n2_ := Aside0.mk (below_step (by repeat (first | (with_reducible first | exact HB.out | apply below_alloc | apply pw_below_drewN | apply below_drew1 | refine below_set ?_ GE397.out | refine below_set ?_ GE398.out) | exact HB.out)) hb); clear BK397; clear BK398; clear HB; have BK397 := n0_; have BK398 := n1_; have HB := n2_; clear n0_ n1_ n2_; (try clear hb); (try clear hb2); (try clear hk); (try clear hi)))
          go_roundg k1
          case measure => have := HK1.out; omega
          case rel => exact ⟨(wrap64 (x10_1 + 1)), (by first | rfl | (simp; done) | (simp [*]; done) | (simp [Int.tmod_eq_emod_of_nonneg]; done)), H', ⟨by have := HK1.out; omega⟩, ⟨by (with_reducible repeat (first | refine blk_drewN ?_ _ | refine blk_drew ?_ | refine blk_alloc ?_ _)); exact BK397.out⟩, ⟨by (with_reducible repeat (first | refine blk_drewN ?_ _ | refine blk_drew ?_ | refine blk_alloc ?_ _)); exact BK398.out⟩, ⟨by repeat (first | (with_reducible first | exact HB.out | apply below_alloc | apply pw_below_drewN | apply below_drew1 | refine below_set ?_ GE397.out | refine below_set ?_ GE398.out) | exact HB.out)⟩⟩
      · rw [if_neg c6] at H
        have c6b0 : decide (x10_1 < (wrap64 (a2 + 1))) = false := decide_eq_false c6
        clear c6
        obtain rfl := Option.some.inj H
        go_wp2
        go_ret
        exact ⟨by first | rfl | (simp [errW_none, errW_some] <;> rfl) | (simp [*, errW_none, errW_some] <;> rfl) | (simp [errW_none, errW_some]; exact ⟨rfl, rfl⟩), by repeat (first | (with_reducible first | exact HB.out | apply below_alloc | apply pw_below_drewN | apply below_drew1 | refine below_set ?_ GE397.out | refine below_set ?_ GE398.out) | exact HB.out)⟩

end Go.Proofs.Ytaebonckcbhofaa.P

namespace Go.Proofs.Ytaebonckcbhofaa.P
open Go.RowKit Go.Proofs.YtaebonckcbhofaaW.PrintWords Go.Proofs.YtaebonckcbhofaaW.PrintLast Go.Proofs.YtaebonckcbhofaaW.PrintMore
attribute [local go_sem] max2_int min2_int max_two min_two max_three min_three max_four min_four   -- for this text's walks alone
set_option linter.unusedVariables false
set_option linter.unusedSimpArgs false

/-! ### spec_DrawSumOf: function 13 -/
def spec_DrawSumOf.f (k : Nat) (l0 : List Int) : Option (ByteArray × ByteArray) := (spec_l6Open.f l0).bind fun bt389 => ((spec_l91Set.f k bt389.1 bt389.2).bind fun bt392 => ((spec_l91Set.f k bt389.1 bt392.2).bind fun bt394 => (some (bt392.1, bt394.1))))
theorem spec_DrawSumOf.mono : ∀ a0 k, LeO (spec_DrawSumOf.f k a0) (spec_DrawSumOf.f (k + 1) a0) := by
  intro a0 k
  unfold spec_DrawSumOf.f
  repeat' first
      | (with_reducible exact spec_l91Set.mono _ _ _)
      | (with_reducible exact LeO.refl _)
      | (with_reducible exact LeO.none _)
      | (with_reducible refine LeO.ite ?_ ?_)
      | (with_reducible refine LeO.bind ?_ (fun _ => ?_))
      | exact spec_l91Set.mono _ _ _
      | exact LeO.none _
      | refine LeO.ite ?_ ?_
      | refine LeO.bind ?_ (fun _ => ?_)
set_option maxHeartbeats 8000000 in
set_option maxRecDepth 100000 in
theorem spec_DrawSumOf.calls (k : Nat) (A0 : Option Addr) (c0 : Nat) (l0 : List Int) (r1 : ByteArray) (r2 : ByteArray) (w : World) (hr0 : Kd.C (Kd.int .u8) w A0 l0.length l0) (hc0 : l0.length ≤ c0) (h : spec_DrawSumOf.f k l0 = some (r1, r2)) :
    Calls Try.prog 13 #[.slice A0 l0.length c0] w fun e w' => e = .returned (.tuple #[.string r1, .string r2]) ∧ Below w.heap.size w w' := by
  have HR0 := Aside0.mk hr0
  have HC0 := Aside0.mk hc0
  clear hr0 hc0
  have HB := Aside0.mk (Below.refl w.heap.size w)
  have H : ((spec_l6Open.f l0).bind fun bt389 => ((spec_l91Set.f k bt389.1 bt389.2).bind fun bt392 => ((spec_l91Set.f k bt389.1 bt392.2).bind fun bt394 => (some (bt392.1, bt394.1))))) = some (r1, r2) := h
  clear h
  replace H := Option.bind_eq_some_iff.mp H
  obtain ⟨⟨t389, t390⟩, A20, H⟩ := H
  replace H : ((spec_l91Set.f k t389 t390).bind fun bt392 => ((spec_l91Set.f k t389 bt392.2).bind fun bt394 => (some (bt392.1, bt394.1)))) = some (r1, r2) := H
  have A2 := Aside0.mk A20
  clear A20
  replace H := Option.bind_eq_some_iff.mp H
  obtain ⟨⟨t392, t393⟩, A30, H⟩ := H
  replace H : ((spec_l91Set.f k t389 t393).bind fun bt394 => (some (t392, bt394.1))) = some (r1, r2) := H
  have A3 := Aside0.mk A30
  clear A30
  replace H := Option.bind_eq_some_iff.mp H
  obtain ⟨⟨t394, t395⟩, A40, H⟩ := H
  replace H : (some (t392, t394)) = some (r1, r2) := H
  have A4 := Aside0.mk A40
  clear A40
  simp only [Option.some.injEq, Prod.mk.injEq] at H
  obtain ⟨rfl, rfl⟩ := H
  go_enter Try.func13, Try.ntmps13
  go_wp2_with (first | ((with_reducible refine gate_callee (f := 28) rfl ?_); refine goesL_ (some 6) rfl rfl Try.func28 (by kernel_rfl) rfl #[.slice A0 l0.length c0] rfl (by (try simp only [List.map_toArray, List.map_cons, List.map_nil]); first | done | rfl | (simp only [List.length_drop, List.length_take]; rfl)) ?_; (with_reducible refine (spec_l6Open.calls _ _ l0 t389 t390 w _ ?side1 ?side2 ?side3 A2.out).mono ?_); (case side1 => repeat (first | (with_reducible first | exact HB.out | apply below_alloc | apply pw_below_drewN | apply below_drew1) | exact HB.out)); (case side2 => exact HR0.out); (case side3 => exact HC0.out); rintro e w5 ⟨g391, rfl, hi, hb, hb2⟩; refine ⟨_, rfl, ?_⟩; have n0_ := Aside0.mk (hb); have n1_ := Aside0.mk (hi); clear HB; have HB := n0_; have HI391 := n1_; clear n0_ n1_; (try clear hb); (try clear hb2); (try clear hk); (try clear hi)) | ((with_reducible refine gate_callee (f := 29) rfl ?_); refine goesL_ (some 8) rfl rfl Try.func29 (by kernel_rfl) rfl #[.pointer (some ⟨g391, 0, none⟩)] rfl (by (try simp only [List.map_toArray, List.map_cons, List.map_nil]); first | done | rfl | (simp only [List.length_drop, List.length_take]; rfl)) ?_; (with_reducible refine (spec_l91Set.calls k g391 t389 t390 t392 t393 w _ ?side1 ?side2 A3.out).mono ?_); (case side1 => repeat (first | (with_reducible first | exact HI391.out | apply IsS73.alloc | apply IsS73.drewN | apply IsS73.drew | apply IsS73.set_1) | exact HI391.out)); (case side2 => repeat (first | (with_reducible first | exact HB.out | apply below_alloc | apply pw_below_drewN | apply below_drew1 | refine below_set ?_ (IsS73.ge HI391.out)) | exact HB.out)); rintro e w6 ⟨rfl, hi, hb, hk⟩; refine ⟨_, rfl, ?_⟩; have n0_ := Aside0.mk (hb); have n1_ := Aside0.mk (hi); clear HB; clear HI391; have HB := n0_; have HI391 := n1_; clear n0_ n1_; (try clear hb); (try clear hb2); (try clear hk); (try clear hi)) | ((with_reducible refine gate_callee (f := 29) rfl ?_); refine goesL_ (some 10) rfl rfl Try.func29 (by kernel_rfl) rfl #[.pointer (some ⟨g391, 0, none⟩)] rfl (by (try simp only [List.map_toArray, List.map_cons, List.map_nil]); first | done | rfl | (simp only [List.length_drop, List.length_take]; rfl)) ?_; (with_reducible refine (spec_l91Set.calls k g391 t389 t393 t394 t395 w _ ?side1 ?side2 A4.out).mono ?_); (case side1 => repeat (first | (with_reducible first | exact HI391.out | apply IsS73.alloc | apply IsS73.drewN | apply IsS73.drew | apply IsS73.set_1) | exact HI391.out)); (case side2 => repeat (first | (with_reducible first | exact HB.out | apply below_alloc | apply pw_below_drewN | apply below_drew1 | refine below_set ?_ (IsS73.ge HI391.out)) | exact HB.out)); rintro e w7 ⟨rfl, hi, hb, hk⟩; refine ⟨_, rfl, ?_⟩; have n0_ := Aside0.mk (hb); have n1_ := Aside0.mk (hi); clear HB; clear HI391; have HB := n0_; have HI391 := n1_; clear n0_ n1_; (try clear hb); (try clear hb2); (try clear hk); (try clear hi)))
  go_ret2
  exact ⟨by first | rfl | (simp [errW_none, errW_some] <;> rfl) | (simp [*, errW_none, errW_some] <;> rfl) | (simp [errW_none, errW_some]; exact ⟨rfl, rfl⟩), by repeat (first | (with_reducible first | exact HB.out | apply below_alloc | apply pw_below_drewN | apply below_drew1 | refine below_set ?_ (IsS73.ge HI391.out)) | exact HB.out)⟩

end Go.Proofs.Ytaebonckcbhofaa.P

namespace Go.Proofs.Ytaebonckcbhofaa.P
open Go.RowKit Go.Proofs.YtaebonckcbhofaaW.PrintWords Go.Proofs.YtaebonckcbhofaaW.PrintLast Go.Proofs.YtaebonckcbhofaaW.PrintMore
attribute [local go_sem] max2_int min2_int max_two min_two max_three min_three max_four min_four   -- for this text's walks alone
set_option linter.unusedVariables false
set_option linter.unusedSimpArgs false

/-! ### spec_SumOf: function 15 -/
def spec_SumOf.f (k : Nat) (a0 : ByteArray) (a1 : ByteArray) : Option (ByteArray × Bool) := (spec_l4Small.f k a0).bind fun bt401 => ((spec_l4Small.f k a1).bind fun bt409 => (if bt401.2.2 = true then (if bt409.2.2 = true then ((spec_l4Sum.f k bt401.1 bt401.2.1 bt409.1 bt409.2.1 false).bind fun bt417 => (some (bt417.1, bt417.2))) else (some ((⟨#[]⟩ : ByteArray), false))) else (some ((⟨#[]⟩ : ByteArray), false))))
theorem spec_SumOf.mono : ∀ a0 a1 k, LeO (spec_SumOf.f k a0 a1) (spec_SumOf.f (k + 1) a0 a1) := by
  intro a0 a1 k
  unfold spec_SumOf.f
  repeat' first
      | (with_reducible exact spec_l4Small.mono _ _)
      | (with_reducible exact spec_l4Sum.mono _ _ _ _ _ _)
      | (with_reducible exact LeO.refl _)
      | (with_reducible exact LeO.none _)
      | (with_reducible refine LeO.ite ?_ ?_)
      | (with_reducible refine LeO.bind ?_ (fun _ => ?_))
      | exact spec_l4Small.mono _ _
      | exact spec_l4Sum.mono _ _ _ _ _ _
      | exact LeO.none _
      | refine LeO.ite ?_ ?_
      | refine LeO.bind ?_ (fun _ => ?_)
set_option maxHeartbeats 8000000 in
set_option maxRecDepth 100000 in
theorem spec_SumOf.calls (k : Nat) (a0 : ByteArray) (a1 : ByteArray) (r1 : ByteArray) (r2 : Bool) (w : World) (h : spec_SumOf.f k a0 a1 = some (r1, r2)) :
    Calls Try.prog 15 #[.string a0, .string a1] w fun e w' => e = .returned (.tuple #[.string r1, .bool r2]) ∧ Below w.heap.size w w' := by
  have hu48 := Try.underlying48
  have HB := Aside0.mk (Below.refl w.heap.size w)
  have H : ((spec_l4Small.f k a0).bind fun bt401 => ((spec_l4Small.f k a1).bind fun bt409 => (if bt401.2.2 = true then (if bt409.2.2 = true then ((spec_l4Sum.f k bt401.1 bt401.2.1 bt409.1 bt409.2.1 false).bind fun bt417 => (some (bt417.1, bt417.2))) else (some ((⟨#[]⟩ : ByteArray), false))) else (some ((⟨#[]⟩ : ByteArray), false))))) = some (r1, r2) := h
  clear h
  replace H := Option.bind_eq_some_iff.mp H
  obtain ⟨⟨t401, t404, t407⟩, A30, H⟩ := H
  replace H : ((spec_l4Small.f k a1).bind fun bt409 => (if t407 = true then (if bt409.2.2 = true then ((spec_l4Sum.f k t401 t404 bt409.1 bt409.2.1 false).bind fun bt417 => (some (bt417.1, bt417.2))) else (some ((⟨#[]⟩ : ByteArray), false))) else (some ((⟨#[]⟩ : ByteArray), false)))) = some (r1, r2) := H
  have A3 := Aside0.mk A30
  clear A30
  replace H := Option.bind_eq_some_iff.mp H
  obtain ⟨⟨t409, t412, t415⟩, A40, H⟩ := H
  replace H : (if t407 = true then (if t415 = true then ((spec_l4Sum.f k t401 t404 t409 t412 false).bind fun bt417 => (some (bt417.1, bt417.2))) else (some ((⟨#[]⟩ : ByteArray), false))) else (some ((⟨#[]⟩ : ByteArray), false))) = some (r1, r2) := H
  have A4 := Aside0.mk A40
  clear A40
  by_cases c5 : t407 = true
  · subst c5
    have H1 : (if t415 = true then ((spec_l4Sum.f k t401 t404 t409 t412 false).bind fun bt417 => (some (bt417.1, bt417.2))) else (some ((⟨#[]⟩ : ByteArray), false))) = some (r1, r2) := by rw [if_pos rfl] at H; exact H
    clear H
    have H := H1
    clear H1
    by_cases c6 : t415 = true
    · subst c6
      have H1 : ((spec_l4Sum.f k t401 t404 t409 t412 false).bind fun bt417 => (some (bt417.1, bt417.2))) = some (r1, r2) := by rw [if_pos rfl] at H; exact H
      clear H
      have H := H1
      clear H1
      replace H := Option.bind_eq_some_iff.mp H
      obtain ⟨⟨t417, t418⟩, A70, H⟩ := H
      replace H : (some (t417, t418)) = some (r1, r2) := H
      have A7 := Aside0.mk A70
      clear A70
      simp only [Option.some.injEq, Prod.mk.injEq] at H
      obtain ⟨rfl, rfl⟩ := H
      go_enter Try.func15, Try.ntmps15
      go_wp2_with (first | ((with_reducible refine gate_callee (f := 34) rfl ?_); refine goesL_ (some 12) rfl rfl Try.func34 (by kernel_rfl) rfl #[.string a0] rfl (by (try simp only [List.map_toArray, List.map_cons, List.map_nil]); first | done | rfl | (simp only [List.length_drop, List.length_take]; rfl)) ?_; (with_reducible refine (spec_l4Small.calls k a0 t401 t404 true _ A3.out).mono ?_); rintro e w8 ⟨v402, v405, rfl, ho0, ho1, hb⟩; refine ⟨_, rfl, ?_⟩; have n0_ := Aside0.mk (Kd.V_lower (Kd.V_mono (ok' := fun k_ => True) ho0 (fun k_ hk_ => trivial)) (below_size (by repeat (first | (with_reducible first | exact HB.out | apply below_alloc | apply pw_below_drewN | apply below_drew1) | exact HB.out)))); have n1_ := Aside0.mk (Kd.V_lower (Kd.V_mono (ok' := fun k_ => True) ho1 (fun k_ hk_ => trivial)) (below_size (by repeat (first | (with_reducible first | exact HB.out | apply below_alloc | apply pw_below_drewN | apply below_drew1) | exact HB.out)))); have n2_ := Aside0.mk (below_step (by repeat (first | (with_reducible first | exact HB.out | apply below_alloc | apply pw_below_drewN | apply below_drew1) | exact HB.out)) hb); clear HB; have HO403 := n0_; have HO406 := n1_; have HB := n2_; clear n0_ n1_ n2_; (try clear hb); (try clear hb2); (try clear hk); (try clear hi); (try clear ho0); (try clear ho1)) | ((with_reducible refine gate_dst (N := 6) rfl ?_); refine box_event ?hg (N := 6) ?hd (cs := #[.slice none 0 0, .slice none 0 0]) (t := 48) ?hr ?_; (case hd => rfl); (case hg => rfl); (case hr => first | (go_simp; done) | (go_simp; rfl)); intro gb408 hg w9 hbox hb; have n0_ := Aside0.mk (Kd.V_below (Kd.V_elderB (by (with_reducible repeat (first | apply Kd.V_alloc | apply Kd.V_drewN | apply Kd.V_drew)); exact HO403.out) gb408 (Nat.le_of_eq hg.symm)) hb); have n1_ := Aside0.mk (Kd.V_below (Kd.V_elderB (by (with_reducible repeat (first | apply Kd.V_alloc | apply Kd.V_drewN | apply Kd.V_drew)); exact HO406.out) gb408 (Nat.le_of_eq hg.symm)) hb); have n2_ := Aside0.mk (below_step (by repeat (first | (with_reducible first | exact HB.out | apply below_alloc | apply pw_below_drewN | apply below_drew1) | exact HB.out)) hb); have n3_ := Aside0.mk (hbox); have n4_ := Aside0.mk ((by rw [hg]; exact (below_size (by repeat (first | (with_reducible first | exact HB.out | apply below_alloc | apply pw_below_drewN | apply below_drew1) | exact HB.out))) : w.heap.size ≤ gb408)); have n5_ := Aside0.mk ((by rw [hg]; exact (below_size (by repeat (first | (with_reducible first | exact HB.out | apply below_alloc | apply pw_below_drewN | apply below_drew1) | exact HB.out))) : w.heap.size ≤ gb408)); clear HO403; clear HO406; clear HB; have HO403 := n0_; have HO406 := n1_; have HB := n2_; have BK408 := n3_; have GW408 := n4_; have GE408 := n5_; clear n0_ n1_ n2_ n3_ n4_ n5_; clear hb hbox hg; obtain ⟨Ao10, co10, eo10⟩ := Kd.V_slice HO403.out; subst eo10; have hcz11_0 : w9.cell? ⟨gb408, 0, none⟩ = some (.slice none 0 0) := (blk_cell BK408.out 0).trans rfl; have hcz11_1 : w9.cell? ⟨gb408, 1, none⟩ = some (.slice none 0 0) := (blk_cell BK408.out 1).trans rfl; have hfz11_0 := blk_frozen BK408.out 0; have hfz11_1 := blk_frozen BK408.out 1; obtain ⟨Ao12, co12, eo12⟩ := Kd.V_slice HO406.out; subst eo12) | ((with_reducible refine gate_callee (f := 34) rfl ?_); refine goesL_ (some 17) rfl rfl Try.func34 (by kernel_rfl) rfl #[.string a1] rfl (by (try simp only [List.map_toArray, List.map_cons, List.map_nil]); first | done | rfl | (simp only [List.length_drop, List.length_take]; rfl)) ?_; (with_reducible refine (spec_l4Small.calls k a1 t409 t412 true _ A4.out).mono ?_); rintro e w13 ⟨v410, v413, rfl, ho0, ho1, hb⟩; refine ⟨_, rfl, ?_⟩; have n0_ := Aside0.mk (Kd.V_below (by (with_reducible repeat (first | apply Kd.V_alloc | apply Kd.V_drewN | apply Kd.V_drew)); exact (Kd.V_mono (Kd.V_far (p := ⟨gb408, 1, none⟩) (Kd.V_far (p := ⟨gb408, 0, none⟩) (Kd.V_mono HO403.out (fun k_ hk => (⟨hk, hk.2⟩ : _ ∧ k_ ≠ gb408))) (fun _ hk => hk.2) (.slice Ao10 t401.length co10)) (fun _ hk => hk.2) (.slice Ao12 t404.length co12)) (fun _ h_ => h_.1))) hb); have n1_ := Aside0.mk (Kd.V_below (by (with_reducible repeat (first | apply Kd.V_alloc | apply Kd.V_drewN | apply Kd.V_drew)); exact (Kd.V_mono (Kd.V_far (p := ⟨gb408, 1, none⟩) (Kd.V_far (p := ⟨gb408, 0, none⟩) (Kd.V_mono HO406.out (fun k_ hk => (⟨hk, hk.2⟩ : _ ∧ k_ ≠ gb408))) (fun _ hk => hk.2) (.slice Ao10 t401.length co10)) (fun _ hk => hk.2) (.slice Ao12 t404.length co12)) (fun _ h_ => h_.1))) hb); have n2_ := Aside0.mk (Kd.V_lower (Kd.V_mono (ok' := fun k_ => k_ ≠ gb408) ho0 (fun k_ hk_ => (Kd.freshB (g := gb408) (o := .cells #[.slice Ao10 t401.length co10, .slice Ao12 t404.length co12] 48 (0, 0)) (by (with_reducible repeat (first | refine blk_drewN ?_ _ | refine blk_drew ?_ | refine blk_alloc ?_ _)); refine blk_put (cs := #[.slice Ao10 t401.length co10, .slice none 0 0]) ?_ 1 _ rfl; (with_reducible repeat (first | refine blk_drewN ?_ _ | refine blk_drew ?_ | refine blk_alloc ?_ _)); refine blk_put (cs := #[.slice none 0 0, .slice none 0 0]) ?_ 0 _ rfl; (with_reducible repeat (first | refine blk_drewN ?_ _ | refine blk_drew ?_ | refine blk_alloc ?_ _)); exact BK408.out) k_ hk_))) (below_size (by repeat (first | (with_reducible first | exact HB.out | apply below_alloc | apply pw_below_drewN | apply below_drew1 | refine below_set ?_ GE408.out) | exact HB.out)))); have n3_ := Aside0.mk (Kd.V_lower (Kd.V_mono (ok' := fun k_ => k_ ≠ gb408) ho1 (fun k_ hk_ => (Kd.freshB (g := gb408) (o := .cells #[.slice Ao10 t401.length co10, .slice Ao12 t404.length co12] 48 (0, 0)) (by (with_reducible repeat (first | refine blk_drewN ?_ _ | refine blk_drew ?_ | refine blk_alloc ?_ _)); refine blk_put (cs := #[.slice Ao10 t401.length co10, .slice none 0 0]) ?_ 1 _ rfl; (with_reducible repeat (first | refine blk_drewN ?_ _ | refine blk_drew ?_ | refine blk_alloc ?_ _)); refine blk_put (cs := #[.slice none 0 0, .slice none 0 0]) ?_ 0 _ rfl; (with_reducible repeat (first | refine blk_drewN ?_ _ | refine blk_drew ?_ | refine blk_alloc ?_ _)); exact BK408.out) k_ hk_))) (below_size (by repeat (first | (with_reducible first | exact HB.out | apply below_alloc | apply pw_below_drewN | apply below_drew1 | refine below_set ?_ GE408.out) | exact HB.out)))); have n4_ := Aside0.mk (blk_below (g := gb408) (o := .cells #[.slice Ao10 t401.length co10, .slice Ao12 t404.length co12] 48 (0, 0)) (by (with_reducible repeat (first | refine blk_drewN ?_ _ | refine blk_drew ?_ | refine blk_alloc ?_ _)); refine blk_put (cs := #[.slice Ao10 t401.length co10, .slice none 0 0]) ?_ 1 _ rfl; (with_reducible repeat (first | refine blk_drewN ?_ _ | refine blk_drew ?_ | refine blk_alloc ?_ _)); refine blk_put (cs := #[.slice none 0 0, .slice none 0 0]) ?_ 0 _ rfl; (with_reducible repeat (first | refine blk_drewN ?_ _ | refine blk_drew ?_ | refine blk_alloc ?_ _)); exact BK408.out) hb); have n5_ := Aside0.mk (below_step (by repeat (first | (with_reducible first | exact HB.out | apply below_alloc | apply pw_below_drewN | apply below_drew1 | refine below_set ?_ GE408.out) | exact HB.out)) hb); clear HO403; clear HO406; clear BK408; clear HB; have HO403 := n0_; have HO406 := n1_; have HO411 := n2_; have HO414 := n3_; have BK408 := n4_; have HB := n5_; clear n0_ n1_ n2_ n3_ n4_ n5_; (try clear hb); (try clear hb2); (try clear hk); (try clear hi); (try clear ho0); (try clear ho1)) | ((with_reducible refine gate_dst (N := 8) rfl ?_); refine box_event ?hg (N := 8) ?hd (cs := #[.slice none 0 0, .slice none 0 0]) (t := 48) ?hr ?_; (case hd => rfl); (case hg => rfl); (case hr => first | (go_simp; done) | (go_simp; rfl)); intro gb416 hg w14 hbox hb; have n0_ := Aside0.mk (Kd.V_below (Kd.V_elderB (by (with_reducible repeat (first | apply Kd.V_alloc | apply Kd.V_drewN | apply Kd.V_drew)); exact HO403.out) gb416 (Nat.le_of_eq hg.symm)) hb); have n1_ := Aside0.mk (Kd.V_below (Kd.V_elderB (by (with_reducible repeat (first | apply Kd.V_alloc | apply Kd.V_drewN | apply Kd.V_drew)); exact HO406.out) gb416 (Nat.le_of_eq hg.symm)) hb); have n2_ := Aside0.mk (Kd.V_below (Kd.V_elderB (by (with_reducible repeat (first | apply Kd.V_alloc | apply Kd.V_drewN | apply Kd.V_drew)); exact HO411.out) gb416 (Nat.le_of_eq hg.symm)) hb); have n3_ := Aside0.mk (Kd.V_below (Kd.V_elderB (by (with_reducible repeat (first | apply Kd.V_alloc | apply Kd.V_drewN | apply Kd.V_drew)); exact HO414.out) gb416 (Nat.le_of_eq hg.symm)) hb); have n4_ := Aside0.mk (blk_below (g := gb408) (o := .cells #[.slice Ao10 t401.length co10, .slice Ao12 t404.length co12] 48 (0, 0)) (by (with_reducible repeat (first | refine blk_drewN ?_ _ | refine blk_drew ?_ | refine blk_alloc ?_ _)); exact BK408.out) hb); have n5_ := Aside0.mk (below_step (by repeat (first | (with_reducible first | exact HB.out | apply below_alloc | apply pw_below_drewN | apply below_drew1 | refine below_set ?_ GE408.out) | exact HB.out)) hb); have n6_ := Aside0.mk (hbox); have n7_ := Aside0.mk ((by rw [hg]; exact (below_size (by repeat (first | (with_reducible first | exact HB.out | apply below_alloc | apply pw_below_drewN | apply below_drew1 | refine below_set ?_ GE408.out) | exact HB.out))) : w.heap.size ≤ gb416)); have n8_ := Aside0.mk ((by rw [hg]; exact (below_size (by repeat (first | (with_reducible first | exact HB.out | apply below_alloc | apply pw_below_drewN | apply below_drew1 | refine below_set ?_ GE408.out) | exact HB.out))) : w.heap.size ≤ gb416)); have n9_ := Aside0.mk ((by rw [hg]; exact Nat.ne_of_lt (blk_lt (g := gb408) (o := .cells #[.slice Ao10 t401.length co10, .slice Ao12 t404.length co12] 48 (0, 0)) (by (with_reducible repeat (first | refine blk_drewN ?_ _ | refine blk_drew ?_ | refine blk_alloc ?_ _)); exact BK408.out)) : gb408 ≠ gb416)); have n10_ := Aside0.mk ((by rw [hg]; exact Nat.ne_of_gt (blk_lt (g := gb408) (o := .cells #[.slice Ao10 t401.length co10, .slice Ao12 t404.length co12] 48 (0, 0)) (by (with_reducible repeat (first | refine blk_drewN ?_ _ | refine blk_drew ?_ | refine blk_alloc ?_ _)); exact BK408.out)) : gb416 ≠ gb408)); clear HO403; clear HO406; clear HO411; clear HO414; clear BK408; clear HB; have HO403 := n0_; have HO406 := n1_; have HO411 := n2_; have HO414 := n3_; have BK408 := n4_; have HB := n5_; have BK416 := n6_; have GW416 := n7_; have GE416 := n8_; have NB408_416 := n9_; have NB416_408 := n10_; clear n0_ n1_ n2_ n3_ n4_ n5_ n6_ n7_ n8_ n9_ n10_; clear hb hbox hg; obtain ⟨Ao15, co15, eo15⟩ := Kd.V_slice HO411.out; subst eo15; have hnb16 := NB416_408.out; have hnc16 := NB408_416.out; have hcz17_0 : w14.cell? ⟨gb416, 0, none⟩ = some (.slice none 0 0) := (blk_cell BK416.out 0).trans rfl; have hcz17_1 : w14.cell? ⟨gb416, 1, none⟩ = some (.slice none 0 0) := (blk_cell BK416.out 1).trans rfl; have hfz17_0 := blk_frozen BK416.out 0; have hfz17_1 := blk_frozen BK416.out 1; obtain ⟨Ao18, co18, eo18⟩ := Kd.V_slice HO414.out; subst eo18; have hcz19_0 : w14.cell? ⟨gb408, 0, none⟩ = some (.slice Ao10 t401.length co10) := (blk_cell BK408.out 0).trans rfl; have hcz19_1 : w14.cell? ⟨gb408, 1, none⟩ = some (.slice Ao12 t404.length co12) := (blk_cell BK408.out 1).trans rfl; have hfz19_0 := blk_frozen BK408.out 0; have hfz19_1 := blk_frozen BK408.out 1) | ((with_reducible refine gate_callee (f := 35) rfl ?_); refine goesL_ (some 28) rfl rfl Try.func35 (by kernel_rfl) rfl #[.agg #[.slice Ao10 t401.length co10, .slice Ao12 t404.length co12], .agg #[.slice Ao15 t409.length co15, .slice Ao18 t412.length co18], .bool false] rfl (by (try simp only [List.map_toArray, List.map_cons, List.map_nil]); first | done | rfl | (simp only [List.length_drop, List.length_take]; rfl)) ?_; (with_reducible refine (spec_l4Sum.calls k _ _ t401 _ _ t404 _ _ t409 _ _ t412 false t417 t418 _ ?side1 ?side2 ?side3 ?side4 ?side5 ?side6 ?side7 ?side8 A7.out).mono ?_); (case side1 => refine (Kd.V_reads' (e := 4) (base := w.heap.size) (ok := fun k_ => ((True ∧ k_ ≠ gb408) ∧ k_ ≠ gb416)) (n := t401.length) (c := co10) ?_).2.2; exact (by (with_reducible repeat (first | apply Kd.V_alloc | apply Kd.V_drewN | apply Kd.V_drew)); exact (Kd.V_mono (Kd.V_far (p := ⟨gb416, 1, none⟩) (Kd.V_far (p := ⟨gb416, 0, none⟩) (Kd.V_mono HO403.out (fun k_ hk => (⟨hk, hk.2⟩ : _ ∧ k_ ≠ gb416))) (fun _ hk => hk.2) (.slice Ao15 t409.length co15)) (fun _ hk => hk.2) (.slice Ao18 t412.length co18)) (fun _ h_ => h_.1)))); (case side2 => exact (Kd.V_reads' HO403.out).2.1); (case side3 => refine (Kd.V_reads' (e := 4) (base := w.heap.size) (ok := fun k_ => ((True ∧ k_ ≠ gb408) ∧ k_ ≠ gb416)) (n := t404.length) (c := co12) ?_).2.2; exact (by (with_reducible repeat (first | apply Kd.V_alloc | apply Kd.V_drewN | apply Kd.V_drew)); exact (Kd.V_mono (Kd.V_far (p := ⟨gb416, 1, none⟩) (Kd.V_far (p := ⟨gb416, 0, none⟩) (Kd.V_mono HO406.out (fun k_ hk => (⟨hk, hk.2⟩ : _ ∧ k_ ≠ gb416))) (fun _ hk => hk.2) (.slice Ao15 t409.length co15)) (fun _ hk => hk.2) (.slice Ao18 t412.length co18)) (fun _ h_ => h_.1)))); (case side4 => exact (Kd.V_reads' HO406.out).2.1); (case side5 => refine (Kd.V_reads' (e := 4) (base := w.heap.size) (ok := fun k_ => (k_ ≠ gb408 ∧ k_ ≠ gb416)) (n := t409.length) (c := co15) ?_).2.2; exact (by (with_reducible repeat (first | apply Kd.V_alloc | apply Kd.V_drewN | apply Kd.V_drew)); exact (Kd.V_mono (Kd.V_far (p := ⟨gb416, 1, none⟩) (Kd.V_far (p := ⟨gb416, 0, none⟩) (Kd.V_mono HO411.out (fun k_ hk => (⟨hk, hk.2⟩ : _ ∧ k_ ≠ gb416))) (fun _ hk => hk.2) (.slice Ao15 t409.length co15)) (fun _ hk => hk.2) (.slice Ao18 t412.length co18)) (fun _ h_ => h_.1)))); (case side6 => exact (Kd.V_reads' HO411.out).2.1); (case side7 => refine (Kd.V_reads' (e := 4) (base := w.heap.size) (ok := fun k_ => (k_ ≠ gb408 ∧ k_ ≠ gb416)) (n := t412.length) (c := co18) ?_).2.2; exact (by (with_reducible repeat (first | apply Kd.V_alloc | apply Kd.V_drewN | apply Kd.V_drew)); exact (Kd.V_mono (Kd.V_far (p := ⟨gb416, 1, none⟩) (Kd.V_far (p := ⟨gb416, 0, none⟩) (Kd.V_mono HO414.out (fun k_ hk => (⟨hk, hk.2⟩ : _ ∧ k_ ≠ gb416))) (fun _ hk => hk.2) (.slice Ao15 t409.length co15)) (fun _ hk => hk.2) (.slice Ao18 t412.length co18)) (fun _ h_ => h_.1)))); (case side8 => exact (Kd.V_reads' HO414.out).2.1); rintro e w20 ⟨rfl, hb⟩; refine ⟨_, rfl, ?_⟩; have n0_ := Aside0.mk (Kd.V_below (by (with_reducible repeat (first | apply Kd.V_alloc | apply Kd.V_drewN | apply Kd.V_drew)); exact (Kd.V_mono (Kd.V_far (p := ⟨gb416, 1, none⟩) (Kd.V_far (p := ⟨gb416, 0, none⟩) (Kd.V_mono HO403.out (fun k_ hk => (⟨hk, hk.2⟩ : _ ∧ k_ ≠ gb416))) (fun _ hk => hk.2) (.slice Ao15 t409.length co15)) (fun _ hk => hk.2) (.slice Ao18 t412.length co18)) (fun _ h_ => h_.1))) hb); have n1_ := Aside0.mk (Kd.V_below (by (with_reducible repeat (first | apply Kd.V_alloc | apply Kd.V_drewN | apply Kd.V_drew)); exact (Kd.V_mono (Kd.V_far (p := ⟨gb416, 1, none⟩) (Kd.V_far (p := ⟨gb416, 0, none⟩) (Kd.V_mono HO406.out (fun k_ hk => (⟨hk, hk.2⟩ : _ ∧ k_ ≠ gb416))) (fun _ hk => hk.2) (.slice Ao15 t409.length co15)) (fun _ hk => hk.2) (.slice Ao18 t412.length co18)) (fun _ h_ => h_.1))) hb); have n2_ := Aside0.mk (Kd.V_below (by (with_reducible repeat (first | apply Kd.V_alloc | apply Kd.V_drewN | apply Kd.V_drew)); exact (Kd.V_mono (Kd.V_far (p := ⟨gb416, 1, none⟩) (Kd.V_far (p := ⟨gb416, 0, none⟩) (Kd.V_mono HO411.out (fun k_ hk => (⟨hk, hk.2⟩ : _ ∧ k_ ≠ gb416))) (fun _ hk => hk.2) (.slice Ao15 t409.length co15)) (fun _ hk => hk.2) (.slice Ao18 t412.length co18)) (fun _ h_ => h_.1))) hb); have n3_ := Aside0.mk (Kd.V_below (by (with_reducible repeat (first | apply Kd.V_alloc | apply Kd.V_drewN | apply Kd.V_drew)); exact (Kd.V_mono (Kd.V_far (p := ⟨gb416, 1, none⟩) (Kd.V_far (p := ⟨gb416, 0, none⟩) (Kd.V_mono HO414.out (fun k_ hk => (⟨hk, hk.2⟩ : _ ∧ k_ ≠ gb416))) (fun _ hk => hk.2) (.slice Ao15 t409.length co15)) (fun _ hk => hk.2) (.slice Ao18 t412.length co18)) (fun _ h_ => h_.1))) hb); have n4_ := Aside0.mk (blk_below (g := gb408) (o := .cells #[.slice Ao10 t401.length co10, .slice Ao12 t404.length co12] 48 (0, 0)) (by (with_reducible repeat (first | refine blk_drewN ?_ _ | refine blk_drew ?_ | refine blk_alloc ?_ _)); refine blk_far ?_ NB408_416.out _; (with_reducible repeat (first | refine blk_drewN ?_ _ | refine blk_drew ?_ | refine blk_alloc ?_ _)); refine blk_far ?_ NB408_416.out _; (with_reducible repeat (first | refine blk_drewN ?_ _ | refine blk_drew ?_ | refine blk_alloc ?_ _)); exact BK408.out) hb); have n5_ := Aside0.mk (blk_below (g := gb416) (o := .cells #[.slice Ao15 t409.length co15, .slice Ao18 t412.length co18] 48 (0, 0)) (by (with_reducible repeat (first | refine blk_drewN ?_ _ | refine blk_drew ?_ | refine blk_alloc ?_ _)); refine blk_put (cs := #[.slice Ao15 t409.length co15, .slice none 0 0]) ?_ 1 _ rfl; (with_reducible repeat (first | refine blk_drewN ?_ _ | refine blk_drew ?_ | refine blk_alloc ?_ _)); refine blk_put (cs := #[.slice none 0 0, .slice none 0 0]) ?_ 0 _ rfl; (with_reducible repeat (first | refine blk_drewN ?_ _ | refine blk_drew ?_ | refine blk_alloc ?_ _)); exact BK416.out) hb); have n6_ := Aside0.mk (below_step (by repeat (first | (with_reducible first | exact HB.out | apply below_alloc | apply pw_below_drewN | apply below_drew1 | refine below_set ?_ GE408.out | refine below_set ?_ GE416.out) | exact HB.out)) hb); clear HO403; clear HO406; clear HO411; clear HO414; clear BK408; clear BK416; clear HB; have HO403 := n0_; have HO406 := n1_; have HO411 := n2_; have HO414 := n3_; have BK408 := n4_; have BK416 := n5_; have HB := n6_; clear n0_ n1_ n2_ n3_ n4_ n5_ n6_; (try clear hb); (try clear hb2); (try clear hk); (try clear hi)))
      go_ret2
      exact ⟨by first | rfl | (simp [errW_none, errW_some] <;> rfl) | (simp [*, errW_none, errW_some] <;> rfl) | (simp [errW_none, errW_some]; exact ⟨rfl, rfl⟩), by repeat (first | (with_reducible first | exact HB.out | apply below_alloc | apply pw_below_drewN | apply below_drew1 | refine below_set ?_ GE408.out | refine below_set ?_ GE416.out) | exact HB.out)⟩
    · replace c6 := Bool.eq_false_iff.mpr c6
      subst c6
      have H1 : (some ((⟨#[]⟩ : ByteArray), false)) = some (r1, r2) := by rw [if_neg (show ¬ (false = true) by decide)] at H; exact H
      clear H
      have H := H1
      clear H1
      simp only [Option.some.injEq, Prod.mk.injEq] at H
      obtain ⟨rfl, rfl⟩ := H
      go_enter Try.func15, Try.ntmps15
      go_wp2_with (first | ((with_reducible refine gate_callee (f := 34) rfl ?_); refine goesL_ (some 12) rfl rfl Try.func34 (by kernel_rfl) rfl #[.string a0] rfl (by (try simp only [List.map_toArray, List.map_cons, List.map_nil]); first | done | rfl | (simp only [List.length_drop, List.length_take]; rfl)) ?_; (with_reducible refine (spec_l4Small.calls k a0 t401 t404 true _ A3.out).mono ?_); rintro e w21 ⟨v402, v405, rfl, ho0, ho1, hb⟩; refine ⟨_, rfl, ?_⟩; have n0_ := Aside0.mk (Kd.V_lower (Kd.V_mono (ok' := fun k_ => True) ho0 (fun k_ hk_ => trivial)) (below_size (by repeat (first | (with_reducible first | exact HB.out | apply below_alloc | apply pw_below_drewN | apply below_drew1) | exact HB.out)))); have n1_ := Aside0.mk (Kd.V_lower (Kd.V_mono (ok' := fun k_ => True) ho1 (fun k_ hk_ => trivial)) (below_size (by repeat (first | (with_reducible first | exact HB.out | apply below_alloc | apply pw_below_drewN | apply below_drew1) | exact HB.out)))); have n2_ := Aside0.mk (below_step (by repeat (first | (with_reducible first | exact HB.out | apply below_alloc | apply pw_below_drewN | apply below_drew1) | exact HB.out)) hb); clear HB; have HO403 := n0_; have HO406 := n1_; have HB := n2_; clear n0_ n1_ n2_; (try clear hb); (try clear hb2); (try clear hk); (try clear hi); (try clear ho0); (try clear ho1)) | ((with_reducible refine gate_dst (N := 6) rfl ?_); refine box_event ?hg (N := 6) ?hd (cs := #[.slice none 0 0, .slice none 0 0]) (t := 48) ?hr ?_; (case hd => rfl); (case hg => rfl); (case hr => first | (go_simp; done) | (go_simp; rfl)); intro gb408 hg w22 hbox hb; have n0_ := Aside0.mk (Kd.V_below (Kd.V_elderB (by (with_reducible repeat (first | apply Kd.V_alloc | apply Kd.V_drewN | apply Kd.V_drew)); exact HO403.out) gb408 (Nat.le_of_eq hg.symm)) hb); have n1_ := Aside0.mk (Kd.V_below (Kd.V_elderB (by (with_reducible repeat (first | apply Kd.V_alloc | apply Kd.V_drewN | apply Kd.V_drew)); exact HO406.out) gb408 (Nat.le_of_eq hg.symm)) hb); have n2_ := Aside0.mk (below_step (by repeat (first | (with_reducible first | exact HB.out | apply below_alloc | apply pw_below_drewN | apply below_drew1) | exact HB.out)) hb); have n3_ := Aside0.mk (hbox); have n4_ := Aside0.mk ((by rw [hg]; exact (below_size (by repeat (first | (with_reducible first | exact HB.out | apply below_alloc | apply pw_below_drewN | apply below_drew1) | exact HB.out))) : w.heap.size ≤ gb408)); have n5_ := Aside0.mk ((by rw [hg]; exact (below_size (by repeat (first | (with_reducible first | exact HB.out | apply below_alloc | apply pw_below_drewN | apply below_drew1) | exact HB.out))) : w.heap.size ≤ gb408)); clear HO403; clear HO406; clear HB; have HO403 := n0_; have HO406 := n1_; have HB := n2_; have BK408 := n3_; have GW408 := n4_; have GE408 := n5_; clear n0_ n1_ n2_ n3_ n4_ n5_; clear hb hbox hg; obtain ⟨Ao23, co23, eo23⟩ := Kd.V_slice HO403.out; subst eo23; have hcz24_0 : w22.cell? ⟨gb408, 0, none⟩ = some (.slice none 0 0) := (blk_cell BK408.out 0).trans rfl; have hcz24_1 : w22.cell? ⟨gb408, 1, none⟩ = some (.slice none 0 0) := (blk_cell BK408.out 1).trans rfl; have hfz24_0 := blk_frozen BK408.out 0; have hfz24_1 := blk_frozen BK408.out 1; obtain ⟨Ao25, co25, eo25⟩ := Kd.V_slice HO406.out; subst eo25) | ((with_reducible refine gate_callee (f := 34) rfl ?_); refine goesL_ (some 17) rfl rfl Try.func34 (by kernel_rfl) rfl #[.string a1] rfl (by (try simp only [List.map_toArray, List.map_cons, List.map_nil]); first | done | rfl | (simp only [List.length_drop, List.length_take]; rfl)) ?_; (with_reducible refine (spec_l4Small.calls k a1 t409 t412 false _ A4.out).mono ?_); rintro e w26 ⟨v410, v413, rfl, ho0, ho1, hb⟩; refine ⟨_, rfl, ?_⟩; have n0_ := Aside0.mk (Kd.V_below (by (with_reducible repeat (first | apply Kd.V_alloc | apply Kd.V_drewN | apply Kd.V_drew)); exact (Kd.V_mono (Kd.V_far (p := ⟨gb408, 1, none⟩) (Kd.V_far (p := ⟨gb408, 0, none⟩) (Kd.V_mono HO403.out (fun k_ hk => (⟨hk, hk.2⟩ : _ ∧ k_ ≠ gb408))) (fun _ hk => hk.2) (.slice Ao23 t401.length co23)) (fun _ hk => hk.2) (.slice Ao25 t404.length co25)) (fun _ h_ => h_.1))) hb); have n1_ := Aside0.mk (Kd.V_below (by (with_reducible repeat (first | apply Kd.V_alloc | apply Kd.V_drewN | apply Kd.V_drew)); exact (Kd.V_mono (Kd.V_far (p := ⟨gb408, 1, none⟩) (Kd.V_far (p := ⟨gb408, 0, none⟩) (Kd.V_mono HO406.out (fun k_ hk => (⟨hk, hk.2⟩ : _ ∧ k_ ≠ gb408))) (fun _ hk => hk.2) (.slice Ao23 t401.length co23)) (fun _ hk => hk.2) (.slice Ao25 t404.length co25)) (fun _ h_ => h_.1))) hb); have n2_ := Aside0.mk (Kd.V_lower (Kd.V_mono (ok' := fun k_ => k_ ≠ gb408) ho0 (fun k_ hk_ => (Kd.freshB (g := gb408) (o := .cells #[.slice Ao23 t401.length co23, .slice Ao25 t404.length co25] 48 (0, 0)) (by (with_reducible repeat (first | refine blk_drewN ?_ _ | refine blk_drew ?_ | refine blk_alloc ?_ _)); refine blk_put (cs := #[.slice Ao23 t401.length co23, .slice none 0 0]) ?_ 1 _ rfl; (with_reducible repeat (first | refine blk_drewN ?_ _ | refine blk_drew ?_ | refine blk_alloc ?_ _)); refine blk_put (cs := #[.slice none 0 0, .slice none 0 0]) ?_ 0 _ rfl; (with_reducible repeat (first | refine blk_drewN ?_ _ | refine blk_drew ?_ | refine blk_alloc ?_ _)); exact BK408.out) k_ hk_))) (below_size (by repeat (first | (with_reducible first | exact HB.out | apply below_alloc | apply pw_below_drewN | apply below_drew1 | refine below_set ?_ GE408.out) | exact HB.out)))); have n3_ := Aside0.mk (Kd.V_lower (Kd.V_mono (ok' := fun k_ => k_ ≠ gb408) ho1 (fun k_ hk_ => (Kd.freshB (g := gb408) (o := .cells #[.slice Ao23 t401.length co23, .slice Ao25 t404.length co25] 48 (0, 0)) (by (with_reducible repeat (first | refine blk_drewN ?_ _ | refine blk_drew ?_ | refine blk_alloc ?_ _)); refine blk_put (cs := #[.slice Ao23 t401.length co23, .slice none 0 0]) ?_ 1 _ rfl; (with_reducible repeat (first | refine blk_drewN ?_ _ | refine blk_drew ?_ | refine blk_alloc ?_ _)); refine blk_put (cs := #[.slice none 0 0, .slice none 0 0]) ?_ 0 _ rfl; (with_reducible repeat (first | refine blk_drewN ?_ _ | refine blk_drew ?_ | refine blk_alloc ?_ _)); exact BK408.out) k_ hk_))) (below_size (by repeat (first | (with_reducible first | exact HB.out | apply below_alloc | apply pw_below_drewN | apply below_drew1 | refine below_set ?_ GE408.out) | exact HB.out)))); have n4_ := Aside0.mk (blk_below (g := gb408) (o := .cells #[.slice Ao23 t401.length co23, .slice Ao25 t404.length co25] 48 (0, 0)) (by (with_reducible repeat (first | refine blk_drewN ?_ _ | refine blk_drew ?_ | refine blk_alloc ?_ _)); refine blk_put (cs := #[.slice Ao23 t401.length co23, .slice none 0 0]) ?_ 1 _ rfl; (with_reducible repeat (first | refine blk_drewN ?_ _ | refine blk_drew ?_ | refine blk_alloc ?_ _)); refine blk_put (cs := #[.slice none 0 0, .slice none 0 0]) ?_ 0 _ rfl; (with_reducible repeat (first | refine blk_drewN ?_ _ | refine blk_drew ?_ | refine blk_alloc ?_ _)); exact BK408.out) hb); have n5_ := Aside0.mk (below_step (by repeat (first | (with_reducible first | exact HB.out | apply below_alloc | apply pw_below_drewN | apply below_drew1 | refine below_set ?_ GE408.out) | exact HB.out)) hb); clear HO403; clear HO406; clear BK408; clear HB; have HO403 := n0_; have HO406 := n1_; have HO411 := n2_; have HO414 := n3_; have BK408 := n4_; have HB := n5_; clear n0_ n1_ n2_ n3_ n4_ n5_; (try clear hb); (try clear hb2); (try clear hk); (try clear hi); (try clear ho0); (try clear ho1)) | ((with_reducible refine gate_dst (N := 8) rfl ?_); refine box_event ?hg (N := 8) ?hd (cs := #[.slice none 0 0, .slice none 0 0]) (t := 48) ?hr ?_; (case hd => rfl); (case hg => rfl); (case hr => first | (go_simp; done) | (go_simp; rfl)); intro gb416 hg w27 hbox hb; have n0_ := Aside0.mk (Kd.V_below (Kd.V_elderB (by (with_reducible repeat (first | apply Kd.V_alloc | apply Kd.V_drewN | apply Kd.V_drew)); exact HO403.out) gb416 (Nat.le_of_eq hg.symm)) hb); have n1_ := Aside0.mk (Kd.V_below (Kd.V_elderB (by (with_reducible repeat (first | apply Kd.V_alloc | apply Kd.V_drewN | apply Kd.V_drew)); exact HO406.out) gb416 (Nat.le_of_eq hg.symm)) hb); have n2_ := Aside0.mk (Kd.V_below (Kd.V_elderB (by (with_reducible repeat (first | apply Kd.V_alloc | apply Kd.V_drewN | apply Kd.V_drew)); exact HO411.out) gb416 (Nat.le_of_eq hg.symm)) hb); have n3_ := Aside0.mk (Kd.V_below (Kd.V_elderB (by (with_reducible repeat (first | apply Kd.V_alloc | apply Kd.V_drewN | apply Kd.V_drew)); exact HO414.out) gb416 (Nat.le_of_eq hg.symm)) hb); have n4_ := Aside0.mk (blk_below (g := gb408) (o := .cells #[.slice Ao23 t401.length co23, .slice Ao25 t404.length co25] 48 (0, 0)) (by (with_reducible repeat (first | refine blk_drewN ?_ _ | refine blk_drew ?_ | refine blk_alloc ?_ _)); exact BK408.out) hb); have n5_ := Aside0.mk (below_step (by repeat (first | (with_reducible first | exact HB.out | apply below_alloc | apply pw_below_drewN | apply below_drew1 | refine below_set ?_ GE408.out) | exact HB.out)) hb); have n6_ := Aside0.mk (hbox); have n7_ := Aside0.mk ((by rw [hg]; exact (below_size (by repeat (first | (with_reducible first | exact HB.out | apply below_alloc | apply pw_below_drewN | apply below_drew1 | refine below_set ?_ GE408.out) | exact HB.out))) : w.heap.size ≤ gb416)); have n8_ := Aside0.mk ((by rw [hg]; exact (below_size (by repeat (first | (with_reducible first | exact HB.out | apply below_alloc | apply pw_below_drewN | apply below_drew1 | refine below_set ?_ GE408.out) | exact HB.out))) : w.heap.size ≤ gb416)); have n9_ := Aside0.mk ((by rw [hg]; exact Nat.ne_of_lt (blk_lt (g := gb408) (o := .cells #[.slice Ao23 t401.length co23, .slice Ao25 t404.length co25] 48 (0, 0)) (by (with_reducible repeat (first | refine blk_drewN ?_ _ | refine blk_drew ?_ | refine blk_alloc ?_ _)); exact BK408.out)) : gb408 ≠ gb416)); have n10_ := Aside0.mk ((by rw [hg]; exact Nat.ne_of_gt (blk_lt (g := gb408) (o := .cells #[.slice Ao23 t401.length co23, .slice Ao25 t404.length co25] 48 (0, 0)) (by (with_reducible repeat (first | refine blk_drewN ?_ _ | refine blk_drew ?_ | refine blk_alloc ?_ _)); exact BK408.out)) : gb416 ≠ gb408)); clear HO403; clear HO406; clear HO411; clear HO414; clear BK408; clear HB; have HO403 := n0_; have HO406 := n1_; have HO411 := n2_; have HO414 := n3_; have BK408 := n4_; have HB := n5_; have BK416 := n6_; have GW416 := n7_; have GE416 := n8_; have NB408_416 := n9_; have NB416_408 := n10_; clear n0_ n1_ n2_ n3_ n4_ n5_ n6_ n7_ n8_ n9_ n10_; clear hb hbox hg; obtain ⟨Ao28, co28, eo28⟩ := Kd.V_slice HO411.out; subst eo28; have hnb29 := NB416_408.out; have hnc29 := NB408_416.out; have hcz30_0 : w27.cell? ⟨gb416, 0, none⟩ = some (.slice none 0 0) := (blk_cell BK416.out 0).trans rfl; have hcz30_1 : w27.cell? ⟨gb416, 1, none⟩ = some (.slice none 0 0) := (blk_cell BK416.out 1).trans rfl; have hfz30_0 := blk_frozen BK416.out 0; have hfz30_1 := blk_frozen BK416.out 1; obtain ⟨Ao31, co31, eo31⟩ := Kd.V_slice HO414.out; subst eo31))
      go_ret2
      exact ⟨by first | rfl | (simp [errW_none, errW_some] <;> rfl) | (simp [*, errW_none, errW_some] <;> rfl) | (simp [errW_none, errW_some]; exact ⟨rfl, rfl⟩), by repeat (first | (with_reducible first | exact HB.out | apply below_alloc | apply pw_below_drewN | apply below_drew1 | refine below_set ?_ GE408.out | refine below_set ?_ GE416.out) | exact HB.out)⟩
  · replace c5 := Bool.eq_false_iff.mpr c5
    subst c5
    have H1 : (some ((⟨#[]⟩ : ByteArray), false)) = some (r1, r2) := by rw [if_neg (show ¬ (false = true) by decide)] at H; exact H
    clear H
    have H := H1
    clear H1
    simp only [Option.some.injEq, Prod.mk.injEq] at H
    obtain ⟨rfl, rfl⟩ := H
    go_enter Try.func15, Try.ntmps15
    go_wp2_with (first | ((with_reducible refine gate_callee (f := 34) rfl ?_); refine goesL_ (some 12) rfl rfl Try.func34 (by kernel_rfl) rfl #[.string a0] rfl (by (try simp only [List.map_toArray, List.map_cons, List.map_nil]); first | done | rfl | (simp only [List.length_drop, List.length_take]; rfl)) ?_; (with_reducible refine (spec_l4Small.calls k a0 t401 t404 false _ A3.out).mono ?_); rintro e w32 ⟨v402, v405, rfl, ho0, ho1, hb⟩; refine ⟨_, rfl, ?_⟩; have n0_ := Aside0.mk (Kd.V_lower (Kd.V_mono (ok' := fun k_ => True) ho0 (fun k_ hk_ => trivial)) (below_size (by repeat (first | (with_reducible first | exact HB.out | apply below_alloc | apply pw_below_drewN | apply below_drew1) | exact HB.out)))); have n1_ := Aside0.mk (Kd.V_lower (Kd.V_mono (ok' := fun k_ => True) ho1 (fun k_ hk_ => trivial)) (below_size (by repeat (first | (with_reducible first | exact HB.out | apply below_alloc | apply pw_below_drewN | apply below_drew1) | exact HB.out)))); have n2_ := Aside0.mk (below_step (by repeat (first | (with_reducible first | exact HB.out | apply below_alloc | apply pw_below_drewN | apply below_drew1) | exact HB.out)) hb); clear HB; have HO403 := n0_; have HO406 := n1_; have HB := n2_; clear n0_ n1_ n2_; (try clear hb); (try clear hb2); (try clear hk); (try clear hi); (try clear ho0); (try clear ho1)) | ((with_reducible refine gate_dst (N := 6) rfl ?_); refine box_event ?hg (N := 6) ?hd (cs := #[.slice none 0 0, .slice none 0 0]) (t := 48) ?hr ?_; (case hd => rfl); (case hg => rfl); (case hr => first | (go_simp; done) | (go_simp; rfl)); intro gb408 hg w33 hbox hb; have n0_ := Aside0.mk (Kd.V_below (Kd.V_elderB (by (with_reducible repeat (first | apply Kd.V_alloc | apply Kd.V_drewN | apply Kd.V_drew)); exact HO403.out) gb408 (Nat.le_of_eq hg.symm)) hb); have n1_ := Aside0.mk (Kd.V_below (Kd.V_elderB (by (with_reducible repeat (first | apply Kd.V_alloc | apply Kd.V_drewN | apply Kd.V_drew)); exact HO406.out) gb408 (Nat.le_of_eq hg.symm)) hb); have n2_ := Aside0.mk (below_step (by repeat (first | (with_reducible first | exact HB.out | apply below_alloc | apply pw_below_drewN | apply below_drew1) | exact HB.out)) hb); have n3_ := Aside0.mk (hbox); have n4_ := Aside0.mk ((by rw [hg]; exact (below_size (by repeat (first | (with_reducible first | exact HB.out | apply below_alloc | apply pw_below_drewN | apply below_drew1) | exact HB.out))) : w.heap.size ≤ gb408)); have n5_ := Aside0.mk ((by rw [hg]; exact (below_size (by repeat (first | (with_reducible first | exact HB.out | apply below_alloc | apply pw_below_drewN | apply below_drew1) | exact HB.out))) : w.heap.size ≤ gb408)); clear HO403; clear HO406; clear HB; have HO403 := n0_; have HO406 := n1_; have HB := n2_; have BK408 := n3_; have GW408 := n4_; have GE408 := n5_; clear n0_ n1_ n2_ n3_ n4_ n5_; clear hb hbox hg; obtain ⟨Ao34, co34, eo34⟩ := Kd.V_slice HO403.out; subst eo34; have hcz35_0 : w33.cell? ⟨gb408, 0, none⟩ = some (.slice none 0 0) := (blk_cell BK408.out 0).trans rfl; have hcz35_1 : w33.cell? ⟨gb408, 1, none⟩ = some (.slice none 0 0) := (blk_cell BK408.out 1).trans rfl; have hfz35_0 := blk_frozen BK408.out 0; have hfz35_1 := blk_frozen BK408.out 1; obtain ⟨Ao36, co36, eo36⟩ := Kd.V_slice HO406.out; subst eo36) | ((with_reducible refine gate_callee (f := 34) rfl ?_); refine goesL_ (some 17) rfl rfl Try.func34 (by kernel_rfl) rfl #[.string a1] rfl (by (try simp only [List.map_toArray, List.map_cons, List.map_nil]); first | done | rfl | (simp only [List.length_drop, List.length_take]; rfl)) ?_; (with_reducible refine (spec_l4Small.calls k a1 t409 t412 t415 _ A4.out).mono ?_); rintro e w37 ⟨v410, v413, rfl, ho0, ho1, hb⟩; refine ⟨_, rfl, ?_⟩; have n0_ := Aside0.mk (Kd.V_below (by (with_reducible repeat (first | apply Kd.V_alloc | apply Kd.V_drewN | apply Kd.V_drew)); exact (Kd.V_mono (Kd.V_far (p := ⟨gb408, 1, none⟩) (Kd.V_far (p := ⟨gb408, 0, none⟩) (Kd.V_mono HO403.out (fun k_ hk => (⟨hk, hk.2⟩ : _ ∧ k_ ≠ gb408))) (fun _ hk => hk.2) (.slice Ao34 t401.length co34)) (fun _ hk => hk.2) (.slice Ao36 t404.length co36)) (fun _ h_ => h_.1))) hb); have n1_ := Aside0.mk (Kd.V_below (by (with_reducible repeat (first | apply Kd.V_alloc | apply Kd.V_drewN | apply Kd.V_drew)); exact (Kd.V_mono (Kd.V_far (p := ⟨gb408, 1, none⟩) (Kd.V_far (p := ⟨gb408, 0, none⟩) (Kd.V_mono HO406.out (fun k_ hk => (⟨hk, hk.2⟩ : _ ∧ k_ ≠ gb408))) (fun _ hk => hk.2) (.slice Ao34 t401.length co34)) (fun _ hk => hk.2) (.slice Ao36 t404.length co36)) (fun _ h_ => h_.1))) hb); have n2_ := Aside0.mk (Kd.V_lower (Kd.V_mono (ok' := fun k_ => k_ ≠ gb408) ho0 (fun k_ hk_ => (Kd.freshB (g := gb408) (o := .cells #[.slice Ao34 t401.length co34, .slice Ao36 t404.length co36] 48 (0, 0)) (by (with_reducible repeat (first | refine blk_drewN ?_ _ | refine blk_drew ?_ | refine blk_alloc ?_ _)); refine blk_put (cs := #[.slice Ao34 t401.length co34, .slice none 0 0]) ?_ 1 _ rfl; (with_reducible repeat (first | refine blk_drewN ?_ _ | refine blk_drew ?_ | refine blk_alloc ?_ _)); refine blk_put (cs := #[.slice none 0 0, .slice none 0 0]) ?_ 0 _ rfl; (with_reducible repeat (first | refine blk_drewN ?_ _ | refine blk_drew ?_ | refine blk_alloc ?_ _)); exact BK408.out) k_ hk_))) (below_size (by repeat (first | (with_reducible first | exact HB.out | apply below_alloc | apply pw_below_drewN | apply below_drew1 | refine below_set ?_ GE408.out) | exact HB.out)))); have n3_ := Aside0.mk (Kd.V_lower (Kd.V_mono (ok' := fun k_ => k_ ≠ gb408) ho1 (fun k_ hk_ => (Kd.freshB (g := gb408) (o := .cells #[.slice Ao34 t401.length co34, .slice Ao36 t404.length co36] 48 (0, 0)) (by (with_reducible repeat (first | refine blk_drewN ?_ _ | refine blk_drew ?_ | refine blk_alloc ?_ _)); refine blk_put (cs := #[.slice Ao34 t401.length co34, .slice none 0 0]) ?_ 1 _ rfl; (with_reducible repeat (first | refine blk_drewN ?_ _ | refine blk_drew ?_ | refine blk_alloc ?_ _)); refine blk_put (cs := #[.slice none 0 0, .slice none 0 0]) ?_ 0 _ rfl; (with_reducible repeat (first | refine blk_drewN ?_ _ | refine blk_drew ?_ | refine blk_alloc ?_ _)); exact BK408.out) k_ hk_))) (below_size (by repeat (first | (with_reducible first | exact HB.out | apply below_alloc | apply pw_below_drewN | apply below_drew1 | refine below_set ?_ GE408.out) | exact HB.out)))); have n4_ := Aside0.mk (blk_below (g := gb408) (o := .cells #[.slice Ao34 t401.length co34, .slice Ao36 t404.length co36] 48 (0, 0)) (by (with_reducible repeat (first | refine blk_drewN ?_ _ | refine blk_drew ?_ | refine blk_alloc ?_ _)); refine blk_put (cs := #[.slice Ao34 t401.length co34, .slice none 0 0]) ?_ 1 _ rfl; (with_reducible repeat (first | refine blk_drewN ?_ _ | refine blk_drew ?_ | refine blk_alloc ?_ _)); refine blk_put (cs := #[.slice none 0 0, .slice none 0 0]) ?_ 0 _ rfl; (with_reducible repeat (first | refine blk_drewN ?_ _ | refine blk_drew ?_ | refine blk_alloc ?_ _)); exact BK408.out) hb); have n5_ := Aside0.mk (below_step (by repeat (first | (with_reducible first | exact HB.out | apply below_alloc | apply pw_below_drewN | apply below_drew1 | refine below_set ?_ GE408.out) | exact HB.out)) hb); clear HO403; clear HO406; clear BK408; clear HB; have HO403 := n0_; have HO406 := n1_; have HO411 := n2_; have HO414 := n3_; have BK408 := n4_; have HB := n5_; clear n0_ n1_ n2_ n3_ n4_ n5_; (try clear hb); (try clear hb2); (try clear hk); (try clear hi); (try clear ho0); (try clear ho1)) | ((with_reducible refine gate_dst (N := 8) rfl ?_); refine box_event ?hg (N := 8) ?hd (cs := #[.slice none 0 0, .slice none 0 0]) (t := 48) ?hr ?_; (case hd => rfl); (case hg => rfl); (case hr => first | (go_simp; done) | (go_simp; rfl)); intro gb416 hg w38 hbox hb; have n0_ := Aside0.mk (Kd.V_below (Kd.V_elderB (by (with_reducible repeat (first | apply Kd.V_alloc | apply Kd.V_drewN | apply Kd.V_drew)); exact HO403.out) gb416 (Nat.le_of_eq hg.symm)) hb); have n1_ := Aside0.mk (Kd.V_below (Kd.V_elderB (by (with_reducible repeat (first | apply Kd.V_alloc | apply Kd.V_drewN | apply Kd.V_drew)); exact HO406.out) gb416 (Nat.le_of_eq hg.symm)) hb); have n2_ := Aside0.mk (Kd.V_below (Kd.V_elderB (by (with_reducible repeat (first | apply Kd.V_alloc | apply Kd.V_drewN | apply Kd.V_drew)); exact HO411.out) gb416 (Nat.le_of_eq hg.symm)) hb); have n3_ := Aside0.mk (Kd.V_below (Kd.V_elderB (by (with_reducible repeat (first | apply Kd.V_alloc | apply Kd.V_drewN | apply Kd.V_drew)); exact HO414.out) gb416 (Nat.le_of_eq hg.symm)) hb); have n4_ := Aside0.mk (blk_below (g := gb408) (o := .cells #[.slice Ao34 t401.length co34, .slice Ao36 t404.length co36] 48 (0, 0)) (by (with_reducible repeat (first | refine blk_drewN ?_ _ | refine blk_drew ?_ | refine blk_alloc ?_ _)); exact BK408.out) hb); have n5_ := Aside0.mk (below_step (by repeat (first | (with_reducible first | exact HB.out | apply below_alloc | apply pw_below_drewN | apply below_drew1 | refine below_set ?_ GE408.out) | exact HB.out)) hb); have n6_ := Aside0.mk (hbox); have n7_ := Aside0.mk ((by rw [hg]; exact (below_size (by repeat (first | (with_reducible first | exact HB.out | apply below_alloc | apply pw_below_drewN | apply below_drew1 | refine below_set ?_ GE408.out) | exact HB.out))) : w.heap.size ≤ gb416)); have n8_ := Aside0.mk ((by rw [hg]; exact (below_size (by repeat (first | (with_reducible first | exact HB.out | apply below_alloc | apply pw_below_drewN | apply below_drew1 | refine below_set ?_ GE408.out) | exact HB.out))) : w.heap.size ≤ gb416)); have n9_ := Aside0.mk ((by rw [hg]; exact Nat.ne_of_lt (blk_lt (g := gb408) (o := .cells #[.slice Ao34 t401.length co34, .slice Ao36 t404.length co36] 48 (0, 0)) (by (with_reducible repeat (first | refine blk_drewN ?_ _ | refine blk_drew ?_ | refine blk_alloc ?_ _)); exact BK408.out)) : gb408 ≠ gb416)); have n10_ := Aside0.mk ((by rw [hg]; exact Nat.ne_of_gt (blk_lt (g := gb408) (o := .cells #[.slice Ao34 t401.length co34, .slice Ao36 t404.length co36] 48 (0, 0)) (by (with_reducible repeat (first | refine blk_drewN ?_ _ | refine blk_drew ?_ | refine blk_alloc ?_ _)); exact BK408.out)) : gb416 ≠ gb408)); clear HO403; clear HO406; clear HO411; clear HO414; clear BK408; clear HB; have HO403 := n0_; have HO406 := n1_; have HO411 := n2_; have HO414 := n3_; have BK408 := n4_; have HB := n5_; have BK416 := n6_; have GW416 := n7_; have GE416 := n8_; have NB408_416 := n9_; have NB416_408 := n10_; clear n0_ n1_ n2_ n3_ n4_ n5_ n6_ n7_ n8_ n9_ n10_; clear hb hbox hg; obtain ⟨Ao39, co39, eo39⟩ := Kd.V_slice HO411.out; subst eo39; have hnb40 := NB416_408.out; have hnc40 := NB408_416.out; have hcz41_0 : w38.cell? ⟨gb416, 0, none⟩ = some (.slice none 0 0) := (blk_cell BK416.out 0).trans rfl; have hcz41_1 : w38.cell? ⟨gb416, 1, none⟩ = some (.slice none 0 0) := (blk_cell BK416.out 1).trans rfl; have hfz41_0 := blk_frozen BK416.out 0; have hfz41_1 := blk_frozen BK416.out 1; obtain ⟨Ao42, co42, eo42⟩ := Kd.V_slice HO414.out; subst eo42))
    go_ret2
    exact ⟨by first | rfl | (simp [errW_none, errW_some] <;> rfl) | (simp [*, errW_none, errW_some] <;> rfl) | (simp [errW_none, errW_some]; exact ⟨rfl, rfl⟩), by repeat (first | (with_reducible first | exact HB.out | apply below_alloc | apply pw_below_drewN | apply below_drew1 | refine below_set ?_ GE408.out | refine below_set ?_ GE416.out) | exact HB.out)⟩

end Go.Proofs.Ytaebonckcbhofaa.P

-- impl.gcd, impl.lcm.
namespace Go.Proofs.Ytaebonckcbhofaa.P
open Go.RowKit Go.Proofs.YtaebonckcbhofaaW.PrintWords Go.Proofs.YtaebonckcbhofaaW.PrintLast Go.Proofs.YtaebonckcbhofaaW.PrintMore
set_option linter.unusedVariables false
set_option linter.unusedSimpArgs false

theorem gcd_l0 : ∀ (n m : Nat), n ≤ 1000000 → m ≤ 1000000 → Ev (fun k => impl_gcd.l0 k (m : Int) (n : Int)) ((Nat.gcd n m : Nat) : Int) := by
  intro n
  induction n using Nat.strongRecOn with
  | ind n ih =>
    intro m hn hm
    by_cases h0 : n = 0
    · subst h0
      rw [Nat.gcd_zero_left]
      refine Ev.step (f := fun k => some ((m : Nat) : Int)) (fun k => ?_) (Ev.now _)
      simp only [impl_gcd.l0]; rw [if_pos (by rfl)]
    · have hlt := Nat.mod_lt m (Nat.pos_of_ne_zero h0)
      have := ih (m % n) hlt n (by omega) hn
      rw [Nat.gcd_rec n m]
      refine Ev.step (fun k => ?_) this
      simp only [impl_gcd.l0]
      rw [if_neg (by omega), tmod_nat]
theorem gcd_f (m n : Nat) (hm : m ≤ 1000000) (hn : n ≤ 1000000) : Ev (fun k => impl_gcd.f k (m : Int) (n : Int)) ((Nat.gcd m n : Nat) : Int) := by
  rw [Nat.gcd_comm]; exact gcd_l0 n m hn hm
theorem lcm_le {m n : Nat} (hn : 0 < m ∨ 0 < n) : Nat.lcm m n ≤ m * n := by
  unfold Nat.lcm; exact Nat.div_le_self _ _
theorem lcm_f (m n : Nat) (hm : m ≤ 1000) (hn : n ≤ 1000) (h0 : 0 < m) : Ev (fun k => impl_lcm.f k (m : Int) (n : Int)) ((Nat.lcm m n : Nat) : Int) := by
  have hg : 0 < Nat.gcd m n := Nat.gcd_pos_of_pos_left n h0
  have hle : Nat.lcm m n ≤ m * n := lcm_le (.inl h0)
  have hmn : m * n ≤ 1000 * 1000 := Nat.mul_le_mul hm hn
  have hd : m / Nat.gcd m n * n = Nat.lcm m n := by
    unfold Nat.lcm
    rw [Nat.div_mul_right_comm (Nat.gcd_dvd_left m n)]
  have hd1 : m / Nat.gcd m n ≤ m := Nat.div_le_self _ _
  refine Ev.congr (fun k => rfl) (Ev.bind (gcd_f m n (by omega) (by omega)) ?_)
  simp only [if_neg (show ¬ (((Nat.gcd m n : Nat) : Int) = 0) by omega), tdiv_nat]
  have e1 : wrap64 ((m / Nat.gcd m n : Nat) : Int) = ((m / Nat.gcd m n : Nat) : Int) := by
    generalize m / Nat.gcd m n = x at hd1 ⊢
    exact w64 (by omega) (by omega)
  have e2 : wrap64 (((m / Nat.gcd m n : Nat) : Int) * (n : Int)) = ((Nat.lcm m n : Nat) : Int) := by
    have : ((m / Nat.gcd m n : Nat) : Int) * (n : Int) = ((Nat.lcm m n : Nat) : Int) := by rw [← hd, Int.natCast_mul]
    rw [this]; exact w64 (by omega) (by omega)
  rw [e1, e2]; exact Ev.now _
end Go.Proofs.Ytaebonckcbhofaa.P

-- spec.SumOf.
namespace Go.Proofs.Ytaebonckcbhofaa.P
open Go.RowKit Go.Proofs.YtaebonckcbhofaaW.PrintWords Go.Proofs.YtaebonckcbhofaaW.PrintLast Go.Proofs.YtaebonckcbhofaaW.PrintMore
set_option linter.unusedVariables false
set_option linter.unusedSimpArgs false

theorem ssumOf_f (s t : ByteArray) (hs : s.size ≤ 70368744177664) (ht : t.size ≤ 70368744177664) : Ev (fun k => spec_SumOf.f k s t) (smr (chrs s) (chrs t)) := by
  obtain ⟨x, y, hev, hxy⟩ := l4small_f s hs
  obtain ⟨x2, y2, hev2, hxy2⟩ := l4small_f t ht
  refine Ev.congr (fun k => rfl) (Ev.bind hev (Ev.bind hev2 ?_))
  unfold smr
  cases hb : smallB (chrs s) with
  | false => simp only [Bool.false_eq_true, if_false, Bool.false_and]; exact Ev.now _
  | true =>
    cases hb2 : smallB (chrs t) with
    | false => simp only [Bool.false_eq_true, if_false, Bool.and_false, if_true]; exact Ev.now _
    | true =>
      obtain ⟨a, c, hp, hset, hm1, hm2, hpos, hper⟩ := smallB_ok hb
      obtain ⟨a2, c2, hp2, hset2, hm3, hm4, hpos2, hper2⟩ := smallB_ok hb2
      obtain ⟨rfl, rfl⟩ := hxy (by rw [hp]; rfl)
      obtain ⟨rfl, rfl⟩ := hxy2 (by rw [hp2]; rfl)
      have hh1 : hasB (cn (setf (chrs s))).1 (cn (setf (chrs s))).2 = setf (chrs s) := by rw [hset]; exact cn_has (parse_per hp).1 (parse_per hp).2
      have hh2 : hasB (cn (setf (chrs t))).1 (cn (setf (chrs t))).2 = setf (chrs t) := by rw [hset2]; exact cn_has (parse_per hp2).1 (parse_per hp2).2
      generalize (cn (setf (chrs s))).1 = x at *
      generalize (cn (setf (chrs s))).2 = y at *
      generalize (cn (setf (chrs t))).1 = x2 at *
      generalize (cn (setf (chrs t))).2 = y2 at *
      have hper3 : Per (sumq (hasB x y) (hasB x2 y2)) (2 * max x.length x2.length + 3 * Nat.lcm y.length y2.length + 2) (Nat.lcm y.length y2.length) := (sumq_per ((hasB_per x y).dvd (Nat.dvd_lcm_left _ _)) ((hasB_per x2 y2).dvd (Nat.dvd_lcm_right _ _))).mono (by omega)
      have := l4sum_f x y x2 y2 (List.length_pos_iff.1 hpos) (List.length_pos_iff.1 hpos2) hm1 hm2 hm3 hm4 false _ (fun n => sumB_sumq _ _ n) hper3
      rw [hh1, hh2] at this
      simp only [if_true, Bool.and_self]
      exact Ev.bind this (Ev.now _)
end Go.Proofs.Ytaebonckcbhofaa.P

-- impl.sums asks all parts.
namespace Go.Proofs.Ytaebonckcbhofaa.P
open Go.RowKit Go.Proofs.YtaebonckcbhofaaW.PrintWords Go.Proofs.YtaebonckcbhofaaW.PrintLast Go.Proofs.YtaebonckcbhofaaW.PrintMore
set_option linter.unusedVariables false
set_option linter.unusedSimpArgs false

theorem sums_l0 (a b c d : List Bool) (hb : b ≠ []) (hd : d ≠ []) (h1 : a.length ≤ 60) (h2 : b.length ≤ 60) (h3 : c.length ≤ 60) (h4 : d.length ≤ 60) (n : Nat) (hn : n ≤ 100000) : ∀ (e i : Nat), i ≤ n + 1 → n + 1 - i = e →
    Ev (fun k => impl_sums.l0 k n ((n + 1 : Nat) : Int) i a b c d) (dec (∃ k, i ≤ k ∧ k ≤ n ∧ hasB a b k = true ∧ hasB c d (n - k) = true)) := by
  intro e
  induction e with
  | zero =>
    intro i hi he
    rw [dec_false (fun ⟨m, x, y, _⟩ => by omega)]
    refine Ev.step (f := fun k => some false) (fun k => ?_) (Ev.now _)
    simp only [impl_sums.l0]; rw [if_neg (by omega)]
  | succ e ih =>
    intro i hi he
    have c1 : (i : Int) < ((n + 1 : Nat) : Int) := by omega
    have c3 : i ≤ 4611686018427387904 := by omega
    have c4 : i ≤ n := by omega
    have c5 : n ≤ 4611686018427387904 := by omega
    have e1 := ihas_f a b hb (by omega) i (by omega)
    have e2 := ihas_f c d hd (by omega) (n - i) (by omega)
    have hih := ih (i + 1) (by omega) (by omega)
    by_cases hbad : hasB a b i = true ∧ hasB c d (n - i) = true
    · rw [dec_true ⟨i, Nat.le_refl _, c4, hbad⟩]
      refine Ev.step (f := fun k => some true) (fun k => ?_) (Ev.now _)
      simp only [impl_sums.l0]
      rw [if_pos c1, e1, hbad.1, Option.bind_some, if_pos rfl, wsub c4 c5, e2, hbad.2, Option.bind_some, if_pos rfl]
    · have hc : dec (∃ k, i ≤ k ∧ k ≤ n ∧ hasB a b k = true ∧ hasB c d (n - k) = true) = dec (∃ k, i + 1 ≤ k ∧ k ≤ n ∧ hasB a b k = true ∧ hasB c d (n - k) = true) := dec_congr ⟨fun ⟨m, x, y, z⟩ => by
        rcases Nat.eq_or_lt_of_le x with rfl | x
        · exact absurd z hbad
        · exact ⟨m, x, y, z⟩, fun ⟨m, x, y, z⟩ => ⟨m, by omega, y, z⟩⟩
      rw [hc]
      refine Ev.step (fun k => ?_) hih
      simp only [impl_sums.l0]
      rw [if_pos c1, e1, Option.bind_some]
      cases hx : hasB a b i with
      | false => rw [if_neg (by decide), wsucc c3]
      | true =>
        have hy : hasB c d (n - i) = false := by
          cases hz : hasB c d (n - i) with
          | false => rfl
          | true => exact absurd ⟨hx, hz⟩ hbad
        rw [if_pos rfl, wsub c4 c5, e2, hy, Option.bind_some, if_neg (by decide), wsucc c3]
theorem sums_f (a b c d : List Bool) (hb : b ≠ []) (hd : d ≠ []) (h1 : a.length ≤ 60) (h2 : b.length ≤ 60) (h3 : c.length ≤ 60) (h4 : d.length ≤ 60) (n : Nat) (hn : n ≤ 100000) : Ev (fun k => impl_sums.f k a b c d n) (sumq (hasB a b) (hasB c d) n) := by
  have h := sums_l0 a b c d hb hd h1 h2 h3 h4 n hn _ 0 (Nat.zero_le _) rfl
  have e : dec (∃ k, 0 ≤ k ∧ k ≤ n ∧ hasB a b k = true ∧ hasB c d (n - k) = true) = sumq (hasB a b) (hasB c d) n := dec_congr ⟨fun ⟨k, _, h⟩ => ⟨k, h⟩, fun ⟨k, h⟩ => ⟨k, Nat.zero_le _, h⟩⟩
  rw [e] at h
  refine Ev.congr (fun k => ?_) h
  unfold impl_sums.f
  rw [wsucc (by omega)]; rfl
end Go.Proofs.Ytaebonckcbhofaa.P

-- impl.SumOf: the sum of two small sets.
namespace Go.Proofs.Ytaebonckcbhofaa.P
open Go.RowKit Go.Proofs.YtaebonckcbhofaaW.PrintWords Go.Proofs.YtaebonckcbhofaaW.PrintLast Go.Proofs.YtaebonckcbhofaaW.PrintMore
set_option linter.unusedVariables false
set_option linter.unusedSimpArgs false

noncomputable def impl_SumOf.f (s t : ByteArray) : Option (ByteArray × Bool) := if s.size ≤ 70368744177664 ∧ t.size ≤ 70368744177664 then some (smr (chrs s) (chrs t)) else none
theorem sumOf_f (s t : ByteArray) (hs : s.size ≤ 70368744177664) (ht : t.size ≤ 70368744177664) : impl_SumOf.f s t = some (smr (chrs s) (chrs t)) := by unfold impl_SumOf.f; rw [if_pos ⟨hs, ht⟩]

set_option maxHeartbeats 8000000 in
set_option maxRecDepth 100000 in
theorem sumOf_q_calls (b1 b2 : Nat)
    (x y x2 y2 : List Bool) (hy : y ≠ []) (hy2 : y2 ≠ []) (hl : x.length ≤ 60 ∧ y.length ≤ 60) (hl2 : x2.length ≤ 60 ∧ y2.length ≤ 60) (A0 : Option Addr) (c0 : Nat) (A1 : Option Addr) (c1 : Nat) (A2 : Option Addr) (c2 : Nat) (A3 : Option Addr) (c3 n : Nat) (hn : n ≤ 100000) (W : World)
    (hx0 : W.cell? ⟨b1, 0, none⟩ = some (.slice A0 x.length c0)) (hx1 : W.cell? ⟨b1, 1, none⟩ = some (.slice A1 y.length c1)) (hx2 : W.cell? ⟨b2, 0, none⟩ = some (.slice A2 x2.length c2)) (hx3 : W.cell? ⟨b2, 1, none⟩ = some (.slice A3 y2.length c3))
    (hC0 : Kd.C Kd.bool W A0 x.length x) (hc0 : x.length ≤ c0) (hC1 : Kd.C Kd.bool W A1 y.length y) (hc1 : y.length ≤ c1) (hC2 : Kd.C Kd.bool W A2 x2.length x2) (hc2 : x2.length ≤ c2) (hC3 : Kd.C Kd.bool W A3 y2.length y2) (hc3 : y2.length ≤ c3) :
    Calls Try.prog 38 #[.int .i64 n, .pointer (some ⟨b1, 0, none⟩), .pointer (some ⟨b2, 0, none⟩)] W fun e w' => e = .returned (.bool (sumq (hasB x y) (hasB x2 y2) n)) ∧ Below W.heap.size W w' := by
  have hu := Try.underlying42
  obtain ⟨k, hk⟩ := (sums_f x y x2 y2 hy hy2 hl.1 hl.2 hl2.1 hl2.2 n hn).rounds
  have HC1 := fun (W' : World) (hw : Below W.heap.size W W') => Aside0.mk (impl_sums.calls k A0 c0 x A1 c1 y A2 c2 x2 A3 c3 y2 (n : Int) _ W' (Kd.C_below hC0 hw) hc0 (Kd.C_below hC1 hw) hc1 (Kd.C_below hC2 hw) hc2 (Kd.C_below hC3 hw) hc3 hk)
  generalize sumq (hasB x y) (hasB x2 y2) n = p at *
  clear hC0 hC1 hC2 hC3 hc0 hc1 hc2 hc3 hl hl2 hy hy2 hn hk
  go_enter Try.func38, Try.ntmps38
  go_wp2_with (go_at_call 39; refine (HC1 _ (by repeat (first | exact Below.refl _ _ | apply below_drew1))).out.mono ?_; rintro e w1 ⟨rfl, hd⟩)
  go_ret
  exact ⟨rfl, hd⟩

set_option maxHeartbeats 8000000 in
set_option maxRecDepth 100000 in
theorem impl_SumOf.calls (s t : ByteArray) (r1 : ByteArray) (r2 : Bool) (w : World) (h : impl_SumOf.f s t = some (r1, r2)) :
    Calls Try.prog 14 #[.string s, .string t] w fun e w' => e = .returned (.tuple #[.string r1, .bool r2]) ∧ Below w.heap.size w w' := by
  unfold impl_SumOf.f at h
  split at h
  rotate_left
  · cases h
  rename_i hst
  obtain ⟨hs, ht⟩ := hst
  simp only [Option.some.injEq] at h
  have hR : r1 = (smr (chrs s) (chrs t)).1 ∧ r2 = (smr (chrs s) (chrs t)).2 := by rw [h]; exact ⟨rfl, rfl⟩
  obtain ⟨rfl, rfl⟩ := hR
  clear h
  obtain ⟨x, y, hev, hxy⟩ := small_f s hs
  obtain ⟨x2, y2, hev2, hxy2⟩ := small_f t ht
  obtain ⟨k, hk⟩ := hev.rounds
  obtain ⟨k2, hk2⟩ := hev2.rounds
  have hu := Try.underlying42
  clear hev hev2
  have key : ∀ (b b2 : Bool), smallB (chrs s) = b → smallB (chrs t) = b2 → Calls Try.prog 14 #[.string s, .string t] w fun e w' => e = .returned (.tuple #[.string (smr (chrs s) (chrs t)).1, .bool (smr (chrs s) (chrs t)).2]) ∧ Below w.heap.size w w' := by
    intro b b2 hb hb2
    rw [hb] at hk
    rw [hb2] at hk2
    have HK := fun w => Aside0.mk (impl_small.calls k s x y b w hk)
    have HK2 := fun w => Aside0.mk (impl_small.calls k2 t x2 y2 b2 w hk2)
    by_cases hall : b = true ∧ b2 = true
    · obtain ⟨rfl, rfl⟩ := hall
      obtain ⟨a, c, hp, hset, hm1, hm2, hpos, hper⟩ := smallB_ok hb
      obtain ⟨a2, c2, hp2, hset2, hm3, hm4, hpos2, hper2⟩ := smallB_ok hb2
      obtain ⟨rfl, rfl⟩ := hxy (by rw [hp]; rfl)
      obtain ⟨rfl, rfl⟩ := hxy2 (by rw [hp2]; rfl)
      have e : smr (chrs s) (chrs t) = txt (cn (sumq (setf (chrs s)) (setf (chrs t)))) := by
        unfold smr; rw [hb, hb2]; rfl
      rw [e]
      have hh1 : hasB (cn (setf (chrs s))).1 (cn (setf (chrs s))).2 = setf (chrs s) := by rw [hset]; exact cn_has (parse_per hp).1 (parse_per hp).2
      have hh2 : hasB (cn (setf (chrs t))).1 (cn (setf (chrs t))).2 = setf (chrs t) := by rw [hset2]; exact cn_has (parse_per hp2).1 (parse_per hp2).2
      generalize (cn (setf (chrs s))).1 = x at *
      generalize (cn (setf (chrs s))).2 = y at *
      generalize (cn (setf (chrs t))).1 = x2 at *
      generalize (cn (setf (chrs t))).2 = y2 at *
      obtain ⟨k3, hk3⟩ := (lcm_f y.length y2.length (by omega) (by omega) hpos).rounds
      have hL := lcm_le8 hpos hpos2 hm2 hm4
      have hL0 : 0 < Nat.lcm y.length y2.length := Nat.lcm_pos hpos hpos2
      have hper3 : Per (sumq (setf (chrs s)) (setf (chrs t))) 200 (Nat.lcm y.length y2.length) := (sumq_per (hper.dvd (Nat.dvd_lcm_left _ _)) (hper2.dvd (Nat.dvd_lcm_right _ _))).mono (by omega)
      rw [← hh1, ← hh2] at hper3 ⊢
      have eg : ∀ args w, (callFunc 38 args).run Try.prog w = .ok (.enter 38 args) w := enters_of Try.func38 (by kernel_rfl) rfl
      have HM := fun (lb : Array Value) (w : World) => Aside0.mk (made_calls (sumq (hasB x y) (hasB x2 y2)) 200 (Nat.lcm y.length y2.length) hL0 hper3 (by omega) 38 lb w eg)
      have HQ := Aside0.mk (show ((x.length ≤ 8 ∧ y.length ≤ 8) ∧ y ≠ []) ∧ ((x2.length ≤ 8 ∧ y2.length ≤ 8) ∧ y2 ≠ []) from ⟨⟨⟨hm1, hm2⟩, List.length_pos_iff.1 hpos⟩, ⟨⟨hm3, hm4⟩, List.length_pos_iff.1 hpos2⟩⟩)
      have HLL := Aside0.mk hL
      have HK3 := fun w => Aside0.mk (impl_lcm.calls k3 (y.length : Int) (y2.length : Int) _ w hk3)
      generalize Nat.lcm y.length y2.length = L at *
      clear hb hb2 hp hp2 hxy hxy2 hk hk2 hper hper2 hper3 eg hpos hpos2 hL hL0 e hh1 hh2 hset hset2 hm1 hm2 hm3 hm4 hk3
      go_enter Try.func14, Try.ntmps14
      go_wp2_with (first
        | (go_at_call 30; with_reducible refine (HK _).out.mono ?_; rintro e w1 ⟨v0_, v1_, rfl, hR0, hR1, hb1⟩; obtain ⟨A0, n0, rfl, hn0, hC0⟩ := Kd.R_reads hR0; obtain ⟨A1, n1, rfl, hn1, hC1⟩ := Kd.R_reads hR1; have C0 := Aside0.mk hC0; have C1 := Aside0.mk hC1; have N0 := Aside0.mk hn0; have N1 := Aside0.mk hn1; clear hR0 hR1 hC0 hC1 hn0 hn1; have HB := Aside0.mk hb1; clear hb1)
        | (go_at_call 30; with_reducible refine (HK2 _).out.mono ?_; rintro e w2 ⟨v2_, v3_, rfl, hR0, hR1, hb2⟩; obtain ⟨A2, n2, rfl, hn2, hC2⟩ := Kd.R_reads hR0; obtain ⟨A3, n3, rfl, hn3, hC3⟩ := Kd.R_reads hR1; have C2 := Aside0.mk hC2; have C3 := Aside0.mk hC3; have N2 := Aside0.mk hn2; have N3 := Aside0.mk hn3; clear hR0 hR1 hC2 hC3 hn2 hn3; have HB12 := Aside0.mk (below_step (below_alloc (Below.refl w1.heap.size w1) _) hb2); have e0 := (hb2.cell (p := ⟨w1.heap.size, 0, none⟩) (by simp)).trans (by simp : (w1.alloc (.cells #[.slice A0 x.length n0, .slice A1 y.length n1] _)).cell? ⟨w1.heap.size, 0, none⟩ = some (.slice A0 x.length n0)); have e1 := (hb2.cell (p := ⟨w1.heap.size, 1, none⟩) (by simp)).trans (by simp : (w1.alloc (.cells #[.slice A0 x.length n0, .slice A1 y.length n1] _)).cell? ⟨w1.heap.size, 1, none⟩ = some (.slice A1 y.length n1)); have E0 := Aside0.mk e0; have E1 := Aside0.mk e1; have l1 : w1.heap.size < w2.heap.size := Nat.lt_of_lt_of_le (by simp) hb2.size; have L1 := Aside0.mk l1; clear hb2)
        | (go_at_call 37; refine (HK3 _).out.mono ?_; rintro e w3 ⟨rfl, hd3⟩; have hb3 := drawn0_below hd3; have HB23 := Aside0.mk (below_step (below_alloc (Below.refl w2.heap.size w2) _) hb3); have G3 := Aside0.mk ((hb3.cell (p := ⟨w2.heap.size, 0, none⟩) (by simp)).trans (by simp : (w2.alloc (.cells #[.slice A2 x2.length n2, .slice A3 y2.length n3] _)).cell? ⟨w2.heap.size, 0, none⟩ = some (.slice A2 x2.length n2))); have G4 := Aside0.mk ((hb3.cell (p := ⟨w2.heap.size, 1, none⟩) (by simp)).trans (by simp : (w2.alloc (.cells #[.slice A2 x2.length n2, .slice A3 y2.length n3] _)).cell? ⟨w2.heap.size, 1, none⟩ = some (.slice A3 y2.length n3))); have L2 := Aside0.mk (Nat.lt_of_lt_of_le (by simp) hb3.size : w2.heap.size < w3.heap.size); clear hd3 hb3)
        | (go_at_call 31; refine ((HM _ _).out ?hc).mono ?_; (case hc =>
            intro W i hW hi
            have hBW := below_step HB23.out hW
            have hBW1 := below_step HB12.out hBW
            have hq := HQ.out
            have hl1 := L1.out
            have hl2 := L2.out
            have hs3 := hW.size
            have hL := HLL.out
            exact sumOf_q_calls w1.heap.size w2.heap.size x y x2 y2 hq.1.2 hq.2.2 (by omega) (by omega) A0 n0 A1 n1 A2 n2 A3 n3 i (by omega) W
              ((hBW.cell (p := ⟨w1.heap.size, 0, none⟩) hl1).trans E0.out)
              ((hBW.cell (p := ⟨w1.heap.size, 1, none⟩) hl1).trans E1.out)
              ((hW.cell (p := ⟨w2.heap.size, 0, none⟩) hl2).trans G3.out)
              ((hW.cell (p := ⟨w2.heap.size, 1, none⟩) hl2).trans G4.out)
              (Kd.C_below C0.out hBW1) N0.out (Kd.C_below C1.out hBW1) N1.out (Kd.C_below C2.out hBW) N2.out (Kd.C_below C3.out hBW) N3.out); rintro e w4 ⟨rfl, hb4⟩))
      go_ret2
      exact ⟨rfl, below_step (below_step HB.out (below_step HB12.out HB23.out)) hb4⟩
    · have e : smr (chrs s) (chrs t) = (⟨#[]⟩, false) := by
        unfold smr; rw [hb, hb2, if_neg (by simpa using hall)]
      rw [e]
      have hcase : b = false ∨ (b = true ∧ b2 = false) := by
        cases b with
        | false => exact .inl rfl
        | true =>
          cases b2 with
          | false => exact .inr ⟨rfl, rfl⟩
          | true => exact absurd ⟨rfl, rfl⟩ hall
      clear hb hb2 hk hk2 hxy hxy2 hall e
      rcases hcase with rfl | ⟨rfl, rfl⟩
      all_goals
        go_enter Try.func14, Try.ntmps14
        go_wp2_with (first
          | (go_at_call 30; with_reducible refine (HK _).out.mono ?_; rintro e w1 ⟨v0_, v1_, rfl, hR0, hR1, hb1⟩; obtain ⟨A0, n0, rfl, hn0, hC0⟩ := Kd.R_reads hR0; obtain ⟨A1, n1, rfl, hn1, hC1⟩ := Kd.R_reads hR1; clear hR0 hR1 hC0 hC1 hn0 hn1; have HB := Aside0.mk hb1; clear hb1)
          | (go_at_call 30; with_reducible refine (HK2 _).out.mono ?_; rintro e w2 ⟨v2_, v3_, rfl, hR0, hR1, hb2⟩; obtain ⟨A2, n2, rfl, hn2, hC2⟩ := Kd.R_reads hR0; obtain ⟨A3, n3, rfl, hn3, hC3⟩ := Kd.R_reads hR1; clear hR0 hR1 hC2 hC3 hn2 hn3; have HB2 := Aside0.mk (below_step HB.out (below_step (below_alloc (Below.refl w1.heap.size w1) _) hb2)); clear hb2))
        go_ret2
        refine ⟨rfl, ?_⟩
        repeat (first | exact HB2.out | apply below_alloc | (refine below_set ?_ HB2.out.size))
  exact key _ _ rfl rfl
end Go.Proofs.Ytaebonckcbhofaa.P
