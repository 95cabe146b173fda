/- What these laws reach, joined by a program of this session: contracts (written by that program over the kit's print, or by hand) and plain lemmas. -/
import Derived.Deep.QuietTactic
import Derived.BigQuiet
import Derived.Test.YtfoolgjofinmlaaK1
import Derived.Test.YtfoolgjofinmlaaK2
import Derived.Test.YtfoolgjofinmlaaK3
import Derived.Test.YtfoolgjofinmlaaK4
namespace Go.Proofs.Ytfoolgjofinmlaa.P
open Go.RowKit Go.Proofs.YtfoolgjofinmlaaW.PrintWords Go.Proofs.YtfoolgjofinmlaaW.PrintLast Go.Proofs.YtfoolgjofinmlaaW.PrintMore
attribute [local go_sem] max2_int min2_int max_two min_two max_three min_three max_four min_four   -- for this text's walks alone
set_option linter.unusedVariables false
set_option linter.unusedSimpArgs false

/-! ### impl_in: function 40 -/
def impl_in.f (a0 : Int) (a1 : Int) (a2 : Int) : Option (Bool) := if a0 ≥ a1 then (some (decide (a0 ≤ a2))) else (some false)
set_option maxHeartbeats 8000000 in
set_option maxRecDepth 100000 in
theorem impl_in.calls (a0 : Int) (a1 : Int) (a2 : Int) (r : Bool) (w : World) (h : impl_in.f a0 a1 a2 = some r) :
    Calls Try.prog 40 #[.int .i64 a0, .int .i64 a1, .int .i64 a2] w fun e w' => e = .returned (.bool r) ∧ Drawn0 w w' := by
  have H : (if a0 ≥ a1 then (some (decide (a0 ≤ a2))) else (some false)) = some r := h
  clear h
  by_cases c4 : a0 ≥ a1
  · rw [if_pos c4] at H
    have c4b0 : decide (a1 ≤ a0) = true := decide_eq_true c4
    clear c4
    obtain rfl := Option.some.inj H
    go_enter Try.func40, Try.ntmps40
    go_wp2
    go_ret
    exact ⟨by first | rfl | (simp; done) | (simp [*]; done), by repeat (first | exact Drawn0.refl _ | apply Drawn0.step)⟩
  · rw [if_neg c4] at H
    have c4b0 : decide (a1 ≤ a0) = false := decide_eq_false c4
    clear c4
    obtain rfl := Option.some.inj H
    go_enter Try.func40, Try.ntmps40
    go_wp2
    go_ret
    exact ⟨by first | rfl | (simp; done) | (simp [*]; done), by repeat (first | exact Drawn0.refl _ | apply Drawn0.step)⟩

end Go.Proofs.Ytfoolgjofinmlaa.P

namespace Go.Proofs.Ytfoolgjofinmlaa.P
open Go.RowKit Go.Proofs.YtfoolgjofinmlaaW.PrintWords Go.Proofs.YtfoolgjofinmlaaW.PrintLast Go.Proofs.YtfoolgjofinmlaaW.PrintMore
attribute [local go_sem] max2_int min2_int max_two min_two max_three min_three max_four min_four   -- for this text's walks alone
set_option linter.unusedVariables false
set_option linter.unusedSimpArgs false

/-! ### impl_set_below: function 41 -/
def impl_set_below.l0 : Nat → List Int → Int → Int → List Bool → List Bool → Option (List Int)
  | 0, _, _, _, _, _ => none
  | k + 1, x5, x7, x8, x478000, x478001 => if x8 < x7 then ((impl_set_has.f x478000 x478001 x8).bind fun t478 => (if t478 = true then (if x5.length < 17592186044416 then (impl_set_below.l0 k (x5 ++ [x8]) x7 (wrap64 (x8 + 1)) x478000 x478001) else (none)) else (impl_set_below.l0 k x5 x7 (wrap64 (x8 + 1)) x478000 x478001))) else (some x5)
def impl_set_below.f (k : Nat) (l0_0 : List Bool) (l0_1 : List Bool) (a1 : Int) : Option (List Int) := impl_set_below.l0 k ([] : List Int) a1 0 l0_0 l0_1
theorem impl_set_below.mono_l : ∀ k, (∀ y0 y1 y2 y3 y4, LeO (impl_set_below.l0 k y0 y1 y2 y3 y4) (impl_set_below.l0 (k + 1) y0 y1 y2 y3 y4))
  | 0 => fun _ _ _ _ _ r h => by simp [impl_set_below.l0] at h
  | k + 1 => by
    have ih0 := impl_set_below.mono_l k
    · intro y0 y1 y2 y3 y4
      unfold impl_set_below.l0
      repeat' first
      | (with_reducible exact ih0 _ _ _ _ _)
      | (with_reducible exact LeO.refl _)
      | (with_reducible exact LeO.none _)
      | (with_reducible refine LeO.ite ?_ ?_)
      | (with_reducible refine LeO.bind ?_ (fun _ => ?_))
      | exact ih0 _ _ _ _ _
      | exact LeO.none _
      | refine LeO.ite ?_ ?_
      | refine LeO.bind ?_ (fun _ => ?_)
theorem impl_set_below.mono : ∀ a0 a1 a2 k, LeO (impl_set_below.f k a0 a1 a2) (impl_set_below.f (k + 1) a0 a1 a2) := by
  intro a0 a1 a2 k
  have ih0 := impl_set_below.mono_l k
  unfold impl_set_below.f
  repeat' first
      | (with_reducible exact ih0 _ _ _ _ _)
      | (with_reducible exact LeO.refl _)
      | (with_reducible exact LeO.none _)
      | (with_reducible refine LeO.ite ?_ ?_)
      | (with_reducible refine LeO.bind ?_ (fun _ => ?_))
      | exact ih0 _ _ _ _ _
      | exact LeO.none _
      | refine LeO.ite ?_ ?_
      | refine LeO.bind ?_ (fun _ => ?_)
set_option maxHeartbeats 8000000 in
set_option maxRecDepth 100000 in
theorem impl_set_below.calls (k : Nat) (A0_0 : Option Addr) (c0_0 : Nat) (l0_0 : List Bool) (A0_1 : Option Addr) (c0_1 : Nat) (l0_1 : List Bool) (a1 : Int) (r : List Int) (w : World) (hr0_0 : Kd.C Kd.bool w A0_0 l0_0.length l0_0) (hc0_0 : l0_0.length ≤ c0_0) (hr0_1 : Kd.C Kd.bool w A0_1 l0_1.length l0_1) (hc0_1 : l0_1.length ≤ c0_1) (h : impl_set_below.f k l0_0 l0_1 a1 = some r) :
    Calls Try.prog 41 #[.agg #[.slice A0_0 l0_0.length c0_0, .slice A0_1 l0_1.length c0_1], .int .i64 a1] w fun e w' => ∃ v0_ : Value, e = .returned (v0_) ∧ Kd.R (Kd.int .i64) 3 w' w.heap.size (fun _ => True) v0_ r ∧ Below w.heap.size w w' := by
  have hu42 := Try.underlying42
  have HR0_0 := Aside0.mk hr0_0
  have HC0_0 := Aside0.mk hc0_0
  clear hr0_0 hc0_0
  have HR0_1 := Aside0.mk hr0_1
  have HC0_1 := Aside0.mk hc0_1
  clear hr0_1 hc0_1
  have HB := Aside0.mk (Below.refl w.heap.size w)
  have H : (impl_set_below.l0 k ([] : List Int) a1 0 l0_0 l0_1) = some r := h
  clear h
  have H' := Aside0.mk H
  clear H
  go_enter Try.func41, Try.ntmps41
  go_wp2_with (first | ((with_reducible refine gate_dst (N := 2) rfl ?_); refine box_event ?hg (N := 2) ?hd (cs := #[.slice A0_0 l0_0.length c0_0, .slice A0_1 l0_1.length c0_1]) (t := 42) ?hr ?_; (case hd => rfl); (case hg => rfl); (case hr => first | (go_simp; done) | (go_simp; rfl)); intro gb477 hg w3 hbox hb; have n0_ := Aside0.mk (below_step (by repeat (first | (with_reducible first | exact HB.out | apply below_alloc | apply pw_below_drewN | apply below_drew1) | exact HB.out)) hb); have n1_ := Aside0.mk (hbox); have n2_ := Aside0.mk ((by rw [hg]; exact (below_size (by repeat (first | (with_reducible first | exact HB.out | apply below_alloc | apply pw_below_drewN | apply below_drew1) | exact HB.out))) : w.heap.size ≤ gb477)); have n3_ := Aside0.mk ((by rw [hg]; exact (below_size (by repeat (first | (with_reducible first | exact HB.out | apply below_alloc | apply pw_below_drewN | apply below_drew1) | exact HB.out))) : w.heap.size ≤ gb477)); clear HB; have HB := n0_; have BK477 := n1_; have GW477 := n2_; have GE477 := n3_; clear n0_ n1_ n2_ n3_; clear hb hbox hg))
  go_loopg [5, 8] k (fun kq v5 v8 w' => ∃ (x5_1 : List Int) (x8_1 : Int), v8 = .int .i64 x8_1 ∧ Aside0 (impl_set_below.l0 kq x5_1 a1 x8_1 l0_0 l0_1 = some r) ∧ Aside0 (kq ≤ k) ∧ Aside0 (Kd.R (Kd.int .i64) 3 w' w.heap.size (fun _ => True) v5 x5_1) ∧ Aside0 (w'.heap[gb477]? = some (.cells #[(.slice A0_0 l0_0.length c0_0), (.slice A0_1 l0_1.length c0_1)] 42 (0, 0))) ∧ Aside0 (Below w.heap.size w w'))
  case atStart => exact ⟨(([] : List Int)), (0), (by first | rfl | (simp; done) | (simp [*]; done) | (simp [Int.tmod_eq_emod_of_nonneg]; done)), H', ⟨Nat.le_refl _⟩, ⟨by first | exact Kd.R_nil _ _ _ _ _ | exact Kd.N_nil _ _ _ _ _ | exact Kd.V_nil _ _ _ _ _ | exact Kd.Q_nil _ _ _ _ _ | exact Kd.S_nil _ _ _ _ _⟩, ⟨by (with_reducible repeat (first | refine blk_drewN ?_ _ | refine blk_drew ?_ | refine blk_alloc ?_ _)); exact BK477.out⟩, ⟨by repeat (first | (with_reducible first | exact HB.out | apply below_alloc | apply pw_below_drewN | apply below_drew1 | refine below_set ?_ GE477.out) | exact HB.out)⟩⟩
  case round =>
    clear H'
    try clear p2
    obtain ⟨x5_1, x8_1, rfl, HA, HK1, HO_5, BK477, HB⟩ := hrel
    cases gk with
    | zero => exact absurd HA.out (by simp [impl_set_below.l0])
    | succ k1 =>
      have H := HA.out
      clear HA
      simp only [impl_set_below.l0] at H
      by_cases c4 : x8_1 < a1
      · rw [if_pos c4] at H
        have c4b0 : decide (x8_1 < a1) = true := decide_eq_true c4
        clear c4
        replace H := Option.bind_eq_some_iff.mp H
        obtain ⟨t478, A50, H⟩ := H
        replace H : (if t478 = true then (if x5_1.length < 17592186044416 then (impl_set_below.l0 k1 (x5_1 ++ [x8_1]) a1 (wrap64 (x8_1 + 1)) l0_0 l0_1) else (none)) else (impl_set_below.l0 k1 x5_1 a1 (wrap64 (x8_1 + 1)) l0_0 l0_1)) = some r := H
        have A5 := Aside0.mk A50
        clear A50
        by_cases c6 : t478 = true
        · subst c6
          have H1 : (if x5_1.length < 17592186044416 then (impl_set_below.l0 k1 (x5_1 ++ [x8_1]) a1 (wrap64 (x8_1 + 1)) l0_0 l0_1) else (none)) = some r := by rw [if_pos rfl] at H; exact H
          clear H
          have H := H1
          clear H1
          by_cases c7 : x5_1.length < 17592186044416
          · rw [if_pos c7] at H
            have LMc7 := Aside0.mk c7
            clear c7
            obtain ⟨y479, hy479⟩ : ∃ y_ : List Int, y_ = (x5_1 ++ [x8_1]) := ⟨_, rfl⟩
            replace H : (impl_set_below.l0 k1 y479 a1 (wrap64 (x8_1 + 1)) l0_0 l0_1) = some r := by first | (rw [hy479]; with_reducible exact H) | (have H2_ := (Option.bind_some _ _).symm.trans H; rw [hy479]; with_reducible exact H2_) | (have H2_ := (Option.bind_some _ _).symm.trans H; with_reducible exact H2_) | with_reducible exact H | (rw [hy479]; exact H) | exact H
            have Ny479 := Aside0.mk hy479
            clear hy479
            have H' := Aside0.mk H
            clear H
            have hcz8_0 : wr.cell? ⟨gb477, 0, none⟩ = some (.slice A0_0 l0_0.length c0_0) := (blk_cell BK477.out 0).trans rfl
            have hcz8_1 : wr.cell? ⟨gb477, 1, none⟩ = some (.slice A0_1 l0_1.length c0_1) := (blk_cell BK477.out 1).trans rfl
            have hfz8_0 := blk_frozen BK477.out 0
            have hfz8_1 := blk_frozen BK477.out 1
            go_wp2_with (first | ((with_reducible refine gate_callee (f := 32) rfl ?_); refine goesL_ (some 13) rfl rfl Try.func32 (by kernel_rfl) rfl #[.agg #[.slice A0_0 l0_0.length c0_0, .slice A0_1 l0_1.length c0_1], .int .i64 x8_1] rfl (by (try simp only [List.map_toArray, List.map_cons, List.map_nil]); first | done | rfl | (simp only [List.length_drop, List.length_take]; rfl)) ?_; (with_reducible refine (impl_set_has.calls _ _ l0_0 _ _ l0_1 x8_1 true _ ?side1 ?side2 ?side3 ?side4 A5.out).mono ?_); (case side1 => repeat (first | exact (Kd.C_below HR0_0.out HB.out) | (with_reducible refine Kd.C_alloc ?_ _) | (with_reducible refine Kd.C_drewN ?_ _) | (with_reducible refine Kd.C_drew ?_))); (case side2 => exact HC0_0.out); (case side3 => repeat (first | exact (Kd.C_below HR0_1.out HB.out) | (with_reducible refine Kd.C_alloc ?_ _) | (with_reducible refine Kd.C_drewN ?_ _) | (with_reducible refine Kd.C_drew ?_))); (case side4 => exact HC0_1.out); rintro e w9 ⟨rfl, hb⟩; refine ⟨_, rfl, ?_⟩; have n0_ := Aside0.mk (Kd.R_below (by (with_reducible repeat (first | apply Kd.R_alloc | apply Kd.R_drewN | apply Kd.R_drew)); exact HO_5.out) hb); have n1_ := Aside0.mk (blk_below (g := gb477) (o := .cells #[.slice A0_0 l0_0.length c0_0, .slice A0_1 l0_1.length c0_1] 42 (0, 0)) (by (with_reducible repeat (first | refine blk_drewN ?_ _ | refine blk_drew ?_ | refine blk_alloc ?_ _)); exact BK477.out) hb); have n2_ := Aside0.mk (below_step (by repeat (first | (with_reducible first | exact HB.out | apply below_alloc | apply pw_below_drewN | apply below_drew1 | refine below_set ?_ GE477.out) | exact HB.out)) hb); clear HO_5; clear BK477; clear HB; have HO_5 := n0_; have BK477 := n1_; have HB := n2_; clear n0_ n1_ n2_; (try clear hb); (try clear hb2); (try clear hk); (try clear hi)) | ((with_reducible refine gate_builtin (b := .append) (xs := #[.tmp 14, .tmp 16]) rfl ?_); at_builtin; refine Kd.R_append (Kd.int .i64) (w0 := w) w.heap.size rfl (.tmp 14) (.tmp 16) 51 3 (.int .i64 0) 8 rfl Try.underlying51 info3 rfl (by decide) (by omega) u5 x5_1 x8_1 [.int .i64 x8_1] (fun _ => True) (fun _ => False) rfl rfl ?aP (fun _ hk => hk.elim) ?aF ?aO ?aB ?aS ?aL ?_; (case aP => exact rfl); (case aB => exact (by repeat (first | (with_reducible first | exact HB.out | apply below_alloc | apply pw_below_drewN | apply below_drew1 | refine below_set ?_ GE477.out) | exact HB.out))); (case aF => exact (fun _ _ => trivial)); (case aO => exact (by (with_reducible repeat (first | apply Kd.R_alloc | apply Kd.R_drewN | apply Kd.R_drew)); exact HO_5.out)); (case aS => exact (below_size (by repeat (first | (with_reducible first | exact HB.out | apply below_alloc | apply pw_below_drewN | apply below_drew1 | refine below_set ?_ GE477.out) | exact HB.out)))); (case aL => have := LMc7.out; omega); intro v480 w10 ho hb hg hat; rw [← Ny479.out] at ho; have n0_ := Aside0.mk (blk_grown (g := gb477) (o := .cells #[.slice A0_0 l0_0.length c0_0, .slice A0_1 l0_1.length c0_1] 42 (0, 0)) (by (with_reducible repeat (first | refine blk_drewN ?_ _ | refine blk_drew ?_ | refine blk_alloc ?_ _)); exact BK477.out) hg (Kd.R_ne HO_5.out BK477.out (by decide))); have n1_ := Aside0.mk (hb); have n2_ := Aside0.mk (ho); clear BK477; clear HB; clear HO_5; have BK477 := n0_; have HB := n1_; have HO481 := n2_; clear n0_ n1_ n2_; clear ho hb hg hat))
            go_roundg k1
            case measure => have := HK1.out; omega
            case rel => exact ⟨(y479), (wrap64 (x8_1 + 1)), (by first | rfl | (simp; done) | (simp [*]; done) | (simp [Int.tmod_eq_emod_of_nonneg]; done)), H', ⟨by have := HK1.out; omega⟩, ⟨by (with_reducible repeat (first | apply Kd.R_alloc | apply Kd.R_drewN | apply Kd.R_drew)); exact HO481.out⟩, ⟨by (with_reducible repeat (first | refine blk_drewN ?_ _ | refine blk_drew ?_ | refine blk_alloc ?_ _)); exact BK477.out⟩, ⟨by repeat (first | (with_reducible first | exact HB.out | apply below_alloc | apply pw_below_drewN | apply below_drew1 | refine below_set ?_ GE477.out) | exact HB.out)⟩⟩
          · rw [if_neg c7] at H
            exact absurd H (by simp)
        · replace c6 := Bool.eq_false_iff.mpr c6
          subst c6
          have H1 : (impl_set_below.l0 k1 x5_1 a1 (wrap64 (x8_1 + 1)) l0_0 l0_1) = some r := by rw [if_neg (show ¬ (false = true) by decide)] at H; exact H
          clear H
          have H := H1
          clear H1
          have H' := Aside0.mk H
          clear H
          have hcz11_0 : wr.cell? ⟨gb477, 0, none⟩ = some (.slice A0_0 l0_0.length c0_0) := (blk_cell BK477.out 0).trans rfl
          have hcz11_1 : wr.cell? ⟨gb477, 1, none⟩ = some (.slice A0_1 l0_1.length c0_1) := (blk_cell BK477.out 1).trans rfl
          have hfz11_0 := blk_frozen BK477.out 0
          have hfz11_1 := blk_frozen BK477.out 1
          go_wp2_with (first | ((with_reducible refine gate_callee (f := 32) rfl ?_); refine goesL_ (some 13) rfl rfl Try.func32 (by kernel_rfl) rfl #[.agg #[.slice A0_0 l0_0.length c0_0, .slice A0_1 l0_1.length c0_1], .int .i64 x8_1] rfl (by (try simp only [List.map_toArray, List.map_cons, List.map_nil]); first | done | rfl | (simp only [List.length_drop, List.length_take]; rfl)) ?_; (with_reducible refine (impl_set_has.calls _ _ l0_0 _ _ l0_1 x8_1 false _ ?side1 ?side2 ?side3 ?side4 A5.out).mono ?_); (case side1 => repeat (first | exact (Kd.C_below HR0_0.out HB.out) | (with_reducible refine Kd.C_alloc ?_ _) | (with_reducible refine Kd.C_drewN ?_ _) | (with_reducible refine Kd.C_drew ?_))); (case side2 => exact HC0_0.out); (case side3 => repeat (first | exact (Kd.C_below HR0_1.out HB.out) | (with_reducible refine Kd.C_alloc ?_ _) | (with_reducible refine Kd.C_drewN ?_ _) | (with_reducible refine Kd.C_drew ?_))); (case side4 => exact HC0_1.out); rintro e w12 ⟨rfl, hb⟩; refine ⟨_, rfl, ?_⟩; have n0_ := Aside0.mk (Kd.R_below (by (with_reducible repeat (first | apply Kd.R_alloc | apply Kd.R_drewN | apply Kd.R_drew)); exact HO_5.out) hb); have n1_ := Aside0.mk (blk_below (g := gb477) (o := .cells #[.slice A0_0 l0_0.length c0_0, .slice A0_1 l0_1.length c0_1] 42 (0, 0)) (by (with_reducible repeat (first | refine blk_drewN ?_ _ | refine blk_drew ?_ | refine blk_alloc ?_ _)); exact BK477.out) hb); have n2_ := Aside0.mk (below_step (by repeat (first | (with_reducible first | exact HB.out | apply below_alloc | apply pw_below_drewN | apply below_drew1 | refine below_set ?_ GE477.out) | exact HB.out)) hb); clear HO_5; clear BK477; clear HB; have HO_5 := n0_; have BK477 := n1_; have HB := n2_; clear n0_ n1_ n2_; (try clear hb); (try clear hb2); (try clear hk); (try clear hi)))
          go_roundg k1
          case measure => have := HK1.out; omega
          case rel => exact ⟨(x5_1), (wrap64 (x8_1 + 1)), (by first | rfl | (simp; done) | (simp [*]; done) | (simp [Int.tmod_eq_emod_of_nonneg]; done)), H', ⟨by have := HK1.out; omega⟩, ⟨by (with_reducible repeat (first | apply Kd.R_alloc | apply Kd.R_drewN | apply Kd.R_drew)); exact HO_5.out⟩, ⟨by (with_reducible repeat (first | refine blk_drewN ?_ _ | refine blk_drew ?_ | refine blk_alloc ?_ _)); exact BK477.out⟩, ⟨by repeat (first | (with_reducible first | exact HB.out | apply below_alloc | apply pw_below_drewN | apply below_drew1 | refine below_set ?_ GE477.out) | exact HB.out)⟩⟩
      · rw [if_neg c4] at H
        have c4b0 : decide (x8_1 < a1) = false := decide_eq_false c4
        clear c4
        obtain rfl := Option.some.inj H
        go_wp2
        go_ret
        exact ⟨_, by first | rfl | (simp [errW_none, errW_some] <;> rfl) | (simp [*, errW_none, errW_some] <;> rfl) | (simp [errW_none, errW_some]; exact ⟨rfl, rfl⟩), by (with_reducible repeat (first | apply Kd.R_alloc | apply Kd.R_drewN | apply Kd.R_drew)); exact HO_5.out, by repeat (first | (with_reducible first | exact HB.out | apply below_alloc | apply pw_below_drewN | apply below_drew1 | refine below_set ?_ GE477.out) | exact HB.out)⟩

end Go.Proofs.Ytfoolgjofinmlaa.P

namespace Go.Proofs.Ytfoolgjofinmlaa.P
open Go.RowKit Go.Proofs.YtfoolgjofinmlaaW.PrintWords Go.Proofs.YtfoolgjofinmlaaW.PrintLast Go.Proofs.YtfoolgjofinmlaaW.PrintMore
attribute [local go_sem] max2_int min2_int max_two min_two max_three min_three max_four min_four   -- for this text's walks alone
set_option linter.unusedVariables false
set_option linter.unusedSimpArgs false

/-! ### spec_l1Ends: function 47 -/
def spec_l1Ends.l0 : Nat → Int → List Bool → List Bool → Option (Bool)
  | 0, _, _, _ => none
  | k + 1, x3, x483000, x483001 => if x3 < (x483001.length : Int) then (if 0 ≤ x3 then (if rdOf false x483001 x3 = true then (some false) else (spec_l1Ends.l0 k (wrap64 (x3 + 1)) x483000 x483001)) else (none)) else (some true)
def spec_l1Ends.f (k : Nat) (l0_0 : List Bool) (l0_1 : List Bool) : Option (Bool) := spec_l1Ends.l0 k 0 l0_0 l0_1
theorem spec_l1Ends.mono_l : ∀ k, (∀ y0 y1 y2, LeO (spec_l1Ends.l0 k y0 y1 y2) (spec_l1Ends.l0 (k + 1) y0 y1 y2))
  | 0 => fun _ _ _ r h => by simp [spec_l1Ends.l0] at h
  | k + 1 => by
    have ih0 := spec_l1Ends.mono_l k
    · intro y0 y1 y2
      unfold spec_l1Ends.l0
      repeat' first
      | (with_reducible exact ih0 _ _ _)
      | (with_reducible exact LeO.refl _)
      | (with_reducible exact LeO.none _)
      | (with_reducible refine LeO.ite ?_ ?_)
      | (with_reducible refine LeO.bind ?_ (fun _ => ?_))
      | exact ih0 _ _ _
      | exact LeO.none _
      | refine LeO.ite ?_ ?_
      | refine LeO.bind ?_ (fun _ => ?_)
theorem spec_l1Ends.mono : ∀ a0 a1 k, LeO (spec_l1Ends.f k a0 a1) (spec_l1Ends.f (k + 1) a0 a1) := by
  intro a0 a1 k
  have ih0 := spec_l1Ends.mono_l k
  unfold spec_l1Ends.f
  repeat' first
      | (with_reducible exact ih0 _ _ _)
      | (with_reducible exact LeO.refl _)
      | (with_reducible exact LeO.none _)
      | (with_reducible refine LeO.ite ?_ ?_)
      | (with_reducible refine LeO.bind ?_ (fun _ => ?_))
      | exact ih0 _ _ _
      | exact LeO.none _
      | refine LeO.ite ?_ ?_
      | refine LeO.bind ?_ (fun _ => ?_)
set_option maxHeartbeats 8000000 in
set_option maxRecDepth 100000 in
theorem spec_l1Ends.calls (k : Nat) (A0_0 : Option Addr) (c0_0 : Nat) (l0_0 : List Bool) (A0_1 : Option Addr) (c0_1 : Nat) (l0_1 : List Bool) (r : Bool) (w : World) (hr0_0 : Kd.C Kd.bool w A0_0 l0_0.length l0_0) (hc0_0 : l0_0.length ≤ c0_0) (hr0_1 : Kd.C Kd.bool w A0_1 l0_1.length l0_1) (hc0_1 : l0_1.length ≤ c0_1) (h : spec_l1Ends.f k l0_0 l0_1 = some r) :
    Calls Try.prog 47 #[.agg #[.slice A0_0 l0_0.length c0_0, .slice A0_1 l0_1.length c0_1]] w fun e w' => e = .returned (.bool r) ∧ Below w.heap.size w w' := by
  have hu55 := Try.underlying55
  have HR0_0 := Aside0.mk hr0_0
  have HC0_0 := Aside0.mk hc0_0
  clear hr0_0 hc0_0
  have HR0_1 := Aside0.mk hr0_1
  have HC0_1 := Aside0.mk hc0_1
  clear hr0_1 hc0_1
  have HB := Aside0.mk (Below.refl w.heap.size w)
  have H : (spec_l1Ends.l0 k 0 l0_0 l0_1) = some r := h
  clear h
  have H' := Aside0.mk H
  clear H
  go_enter Try.func47, Try.ntmps47
  go_wp2_with (first | ((with_reducible refine gate_dst (N := 1) rfl ?_); refine box_event ?hg (N := 1) ?hd (cs := #[.slice A0_0 l0_0.length c0_0, .slice A0_1 l0_1.length c0_1]) (t := 55) ?hr ?_; (case hd => rfl); (case hg => rfl); (case hr => first | (go_simp; done) | (go_simp; rfl)); intro gb482 hg w2 hbox hb; have n0_ := Aside0.mk (below_step (by repeat (first | (with_reducible first | exact HB.out | apply below_alloc | apply pw_below_drewN | apply below_drew1) | exact HB.out)) hb); have n1_ := Aside0.mk (hbox); have n2_ := Aside0.mk ((by rw [hg]; exact (below_size (by repeat (first | (with_reducible first | exact HB.out | apply below_alloc | apply pw_below_drewN | apply below_drew1) | exact HB.out))) : w.heap.size ≤ gb482)); have n3_ := Aside0.mk ((by rw [hg]; exact (below_size (by repeat (first | (with_reducible first | exact HB.out | apply below_alloc | apply pw_below_drewN | apply below_drew1) | exact HB.out))) : w.heap.size ≤ gb482)); clear HB; have HB := n0_; have BK482 := n1_; have GW482 := n2_; have GE482 := n3_; clear n0_ n1_ n2_ n3_; clear hb hbox hg))
  go_loopg [3] k (fun kq v3 w' => ∃ (x3_1 : Int), v3 = .int .i64 x3_1 ∧ Aside0 (spec_l1Ends.l0 kq x3_1 l0_0 l0_1 = some r) ∧ Aside0 (kq ≤ k) ∧ Aside0 (w'.heap[gb482]? = some (.cells #[(.slice A0_0 l0_0.length c0_0), (.slice A0_1 l0_1.length c0_1)] 55 (0, 0))) ∧ Aside0 (Below w.heap.size w w'))
  case atStart => exact ⟨(0), (by first | rfl | (simp; done) | (simp [*]; done) | (simp [Int.tmod_eq_emod_of_nonneg]; done)), H', ⟨Nat.le_refl _⟩, ⟨by (with_reducible repeat (first | refine blk_drewN ?_ _ | refine blk_drew ?_ | refine blk_alloc ?_ _)); exact BK482.out⟩, ⟨by repeat (first | (with_reducible first | exact HB.out | apply below_alloc | apply pw_below_drewN | apply below_drew1 | refine below_set ?_ GE482.out) | exact HB.out)⟩⟩
  case round =>
    clear H'
    try clear p2
    obtain ⟨x3_1, rfl, HA, HK1, BK482, HB⟩ := hrel
    cases gk with
    | zero => exact absurd HA.out (by simp [spec_l1Ends.l0])
    | succ k1 =>
      have H := HA.out
      clear HA
      simp only [spec_l1Ends.l0] at H
      by_cases c3 : x3_1 < (l0_1.length : Int)
      · rw [if_pos c3] at H
        have c3b0 : decide (x3_1 < (l0_1.length : Int)) = true := decide_eq_true c3
        clear c3
        by_cases c4 : 0 ≤ x3_1
        · rw [if_pos c4] at H
          have c4b0 : decide (0 ≤ x3_1) = true := decide_eq_true c4
          clear c4
          obtain ⟨bq5, hbq5⟩ : ∃ b_ : Bool, b_ = (rdOf false l0_1 x3_1) := ⟨_, rfl⟩
          replace H : (if bq5 = true then (some false) else (spec_l1Ends.l0 k1 (wrap64 (x3_1 + 1)) l0_0 l0_1)) = some r := by rw [← hbq5] at H; exact H
          have Nbq5 := Aside0.mk hbq5
          clear hbq5
          by_cases c6 : bq5 = true
          · subst c6
            have H1 : (some false) = some r := by rw [if_pos rfl] at H; exact H
            clear H
            have H := H1
            clear H1
            obtain rfl := Option.some.inj H
            have hcz7_0 : wr.cell? ⟨gb482, 0, none⟩ = some (.slice A0_0 l0_0.length c0_0) := (blk_cell BK482.out 0).trans rfl
            have hcz7_1 : wr.cell? ⟨gb482, 1, none⟩ = some (.slice A0_1 l0_1.length c0_1) := (blk_cell BK482.out 1).trans rfl
            have hfz7_0 := blk_frozen BK482.out 0
            have hfz7_1 := blk_frozen BK482.out 1
            have p483 : 0 ≤ (x3_1 : Int) := of_decide_eq_true (by first | (with_reducible assumption) | assumption)
            have q483 : x3_1 < (l0_1.length : Int) := of_decide_eq_true (by first | (with_reducible assumption) | assumption)
            obtain ⟨ad483, e483, hx483_0⟩ := Kd.at_bool HR0_1.out x3_1 p483 q483
            (try rw [← Nbq5.out] at hx483_0)
            cases e483
            replace hx483_0 := (HB.out.cell (World.block_lt_of_cell? w _ hx483_0)).trans hx483_0
            replace p483 := eq_true p483
            replace q483 := eq_true q483
            go_wp2
            go_ret
            exact ⟨by first | rfl | (simp [errW_none, errW_some] <;> rfl) | (simp [*, errW_none, errW_some] <;> rfl) | (simp [errW_none, errW_some]; exact ⟨rfl, rfl⟩), by repeat (first | (with_reducible first | exact HB.out | apply below_alloc | apply pw_below_drewN | apply below_drew1 | refine below_set ?_ GE482.out) | exact HB.out)⟩
          · replace c6 := Bool.eq_false_iff.mpr c6
            subst c6
            have H1 : (spec_l1Ends.l0 k1 (wrap64 (x3_1 + 1)) l0_0 l0_1) = some r := by rw [if_neg (show ¬ (false = true) by decide)] at H; exact H
            clear H
            have H := H1
            clear H1
            have H' := Aside0.mk H
            clear H
            have hcz8_0 : wr.cell? ⟨gb482, 0, none⟩ = some (.slice A0_0 l0_0.length c0_0) := (blk_cell BK482.out 0).trans rfl
            have hcz8_1 : wr.cell? ⟨gb482, 1, none⟩ = some (.slice A0_1 l0_1.length c0_1) := (blk_cell BK482.out 1).trans rfl
            have hfz8_0 := blk_frozen BK482.out 0
            have hfz8_1 := blk_frozen BK482.out 1
            have p483 : 0 ≤ (x3_1 : Int) := of_decide_eq_true (by first | (with_reducible assumption) | assumption)
            have q483 : x3_1 < (l0_1.length : Int) := of_decide_eq_true (by first | (with_reducible assumption) | assumption)
            obtain ⟨ad483, e483, hx483_0⟩ := Kd.at_bool HR0_1.out x3_1 p483 q483
            (try rw [← Nbq5.out] at hx483_0)
            cases e483
            replace hx483_0 := (HB.out.cell (World.block_lt_of_cell? w _ hx483_0)).trans hx483_0
            replace p483 := eq_true p483
            replace q483 := eq_true q483
            go_wp2
            go_roundg k1
            case measure => have := HK1.out; omega
            case rel => exact ⟨(wrap64 (x3_1 + 1)), (by first | rfl | (simp; done) | (simp [*]; done) | (simp [Int.tmod_eq_emod_of_nonneg]; done)), H', ⟨by have := HK1.out; omega⟩, ⟨by (with_reducible repeat (first | refine blk_drewN ?_ _ | refine blk_drew ?_ | refine blk_alloc ?_ _)); exact BK482.out⟩, ⟨by repeat (first | (with_reducible first | exact HB.out | apply below_alloc | apply pw_below_drewN | apply below_drew1 | refine below_set ?_ GE482.out) | exact HB.out)⟩⟩
        · rw [if_neg c4] at H
          exact absurd H (by simp)
      · rw [if_neg c3] at H
        have c3b0 : decide (x3_1 < (l0_1.length : Int)) = false := decide_eq_false c3
        clear c3
        obtain rfl := Option.some.inj H
        have hcz9_0 : wr.cell? ⟨gb482, 0, none⟩ = some (.slice A0_0 l0_0.length c0_0) := (blk_cell BK482.out 0).trans rfl
        have hcz9_1 : wr.cell? ⟨gb482, 1, none⟩ = some (.slice A0_1 l0_1.length c0_1) := (blk_cell BK482.out 1).trans rfl
        have hfz9_0 := blk_frozen BK482.out 0
        have hfz9_1 := blk_frozen BK482.out 1
        go_wp2
        go_ret
        exact ⟨by first | rfl | (simp [errW_none, errW_some] <;> rfl) | (simp [*, errW_none, errW_some] <;> rfl) | (simp [errW_none, errW_some]; exact ⟨rfl, rfl⟩), by repeat (first | (with_reducible first | exact HB.out | apply below_alloc | apply pw_below_drewN | apply below_drew1 | refine below_set ?_ GE482.out) | exact HB.out)⟩

end Go.Proofs.Ytfoolgjofinmlaa.P

namespace Go.Proofs.Ytfoolgjofinmlaa.P
open Go.RowKit Go.Proofs.YtfoolgjofinmlaaW.PrintWords Go.Proofs.YtfoolgjofinmlaaW.PrintLast Go.Proofs.YtfoolgjofinmlaaW.PrintMore
attribute [local go_sem] max2_int min2_int max_two min_two max_three min_three max_four min_four   -- for this text's walks alone
set_option linter.unusedVariables false
set_option linter.unusedSimpArgs false

/-! ### spec_l6In: function 46 -/
def spec_l6In.f (a0 : Int) (a1 : Int) (a2 : Int) : Option (Bool) := if a0 ≥ a1 then (some (decide (a0 ≤ a2))) else (some false)
set_option maxHeartbeats 8000000 in
set_option maxRecDepth 100000 in
theorem spec_l6In.calls (a0 : Int) (a1 : Int) (a2 : Int) (r : Bool) (w : World) (h : spec_l6In.f a0 a1 a2 = some r) :
    Calls Try.prog 46 #[.int .i64 a0, .int .i64 a1, .int .i64 a2] w fun e w' => e = .returned (.bool r) ∧ Drawn0 w w' := by
  have H : (if a0 ≥ a1 then (some (decide (a0 ≤ a2))) else (some false)) = some r := h
  clear h
  by_cases c4 : a0 ≥ a1
  · rw [if_pos c4] at H
    have c4b0 : decide (a1 ≤ a0) = true := decide_eq_true c4
    clear c4
    obtain rfl := Option.some.inj H
    go_enter Try.func46, Try.ntmps46
    go_wp2
    go_ret
    exact ⟨by first | rfl | (simp; done) | (simp [*]; done), by repeat (first | exact Drawn0.refl _ | apply Drawn0.step)⟩
  · rw [if_neg c4] at H
    have c4b0 : decide (a1 ≤ a0) = false := decide_eq_false c4
    clear c4
    obtain rfl := Option.some.inj H
    go_enter Try.func46, Try.ntmps46
    go_wp2
    go_ret
    exact ⟨by first | rfl | (simp; done) | (simp [*]; done), by repeat (first | exact Drawn0.refl _ | apply Drawn0.step)⟩

end Go.Proofs.Ytfoolgjofinmlaa.P

namespace Go.Proofs.Ytfoolgjofinmlaa.P
open Go.RowKit Go.Proofs.YtfoolgjofinmlaaW.PrintWords Go.Proofs.YtfoolgjofinmlaaW.PrintLast Go.Proofs.YtfoolgjofinmlaaW.PrintMore
attribute [local go_sem] max2_int min2_int max_two min_two max_three min_three max_four min_four   -- for this text's walks alone
set_option linter.unusedVariables false
set_option linter.unusedSimpArgs false

/-! ### spec_l91Number: function 39 -/
def spec_l91Number.f (k : Nat) (s0_0 : List Int) (s0_1 : Int) (a1 : Int) : Option (Int × Int) := (spec_l6Rd_pick.f k s0_0 s0_1 16).bind fun bt460 => (if bt460.1 = 0 then ((some (([(-1), a1, wrap64 (a1 + 1)] : List Int) : List Int)).bind fun y462 => ((spec_l6Rd_pick.f k s0_0 bt460.2 3).bind fun bt465 => (if 0 ≤ bt465.1 then (if bt465.1 < (y462.length : Int) then (some (rd y462 bt465.1, bt465.2)) else (none)) else (none)))) else ((spec_l6Rd_pick.f k s0_0 bt460.2 (wrap64 ((mn a1 30) + 1))).bind fun bt468 => (some (bt468.1, bt468.2))))
theorem spec_l91Number.mono : ∀ a0 a1 a2 k, LeO (spec_l91Number.f k a0 a1 a2) (spec_l91Number.f (k + 1) a0 a1 a2) := by
  intro a0 a1 a2 k
  unfold spec_l91Number.f
  repeat' first
      | (with_reducible exact spec_l6Rd_pick.mono _ _ _ _)
      | (with_reducible exact LeO.refl _)
      | (with_reducible exact LeO.none _)
      | (with_reducible refine LeO.ite ?_ ?_)
      | (with_reducible refine LeO.bind ?_ (fun _ => ?_))
      | exact spec_l6Rd_pick.mono _ _ _ _
      | exact LeO.none _
      | refine LeO.ite ?_ ?_
      | refine LeO.bind ?_ (fun _ => ?_)
set_option maxHeartbeats 8000000 in
set_option maxRecDepth 100000 in
theorem spec_l91Number.calls (k : Nat) (g : Nat) (s0_0 : List Int) (s0_1 : Int) (a1 : Int) (r1 : Int) (r2 : Int) (w0 w : World) (hI : IsS63 w0 w g s0_0 s0_1) (hB : Below w0.heap.size w0 w) (h : spec_l91Number.f k s0_0 s0_1 a1 = some (r1, r2)) :
    Calls Try.prog 39 #[.pointer (some ⟨g, 0, none⟩), .int .i64 a1] w fun e w' => e = .returned (.int .i64 r1) ∧ IsS63 w0 w' g s0_0 r2 ∧ Below w0.heap.size w0 w' ∧ KeepBut w w' g none := by
  have HI0 := Aside0.mk hI
  have HK := Aside0.mk (KeepBut.refl w g none)
  have HL := Aside0.mk hB.size
  clear hI
  have HW0 := Aside0.mk hB.size
  have HB := Aside0.mk hB
  clear hB
  have H : ((spec_l6Rd_pick.f k s0_0 s0_1 16).bind fun bt460 => (if bt460.1 = 0 then ((some (([(-1), a1, wrap64 (a1 + 1)] : List Int) : List Int)).bind fun y462 => ((spec_l6Rd_pick.f k s0_0 bt460.2 3).bind fun bt465 => (if 0 ≤ bt465.1 then (if bt465.1 < (y462.length : Int) then (some (rd y462 bt465.1, bt465.2)) else (none)) else (none)))) else ((spec_l6Rd_pick.f k s0_0 bt460.2 (wrap64 ((mn a1 30) + 1))).bind fun bt468 => (some (bt468.1, bt468.2))))) = some (r1, r2) := h
  clear h
  replace H := Option.bind_eq_some_iff.mp H
  obtain ⟨⟨t460, t461⟩, A30, H⟩ := H
  replace H : (if t460 = 0 then ((some (([(-1), a1, wrap64 (a1 + 1)] : List Int) : List Int)).bind fun y462 => ((spec_l6Rd_pick.f k s0_0 t461 3).bind fun bt465 => (if 0 ≤ bt465.1 then (if bt465.1 < (y462.length : Int) then (some (rd y462 bt465.1, bt465.2)) else (none)) else (none)))) else ((spec_l6Rd_pick.f k s0_0 t461 (wrap64 ((mn a1 30) + 1))).bind fun bt468 => (some (bt468.1, bt468.2)))) = some (r1, r2) := H
  have A3 := Aside0.mk A30
  clear A30
  by_cases c4 : t460 = 0
  · rw [if_pos c4] at H
    have c4b0 : (t460 == 0) = true := beq_iff_eq.mpr c4
    have c4b1 : (t460 != 0) = false := bne_eq_false_iff_eq.mpr c4
    clear c4
    obtain ⟨y462, hy462⟩ : ∃ y_ : List Int, y_ = (([(-1), a1, wrap64 (a1 + 1)] : List Int)) := ⟨_, rfl⟩
    replace H : ((spec_l6Rd_pick.f k s0_0 t461 3).bind fun bt465 => (if 0 ≤ bt465.1 then (if bt465.1 < (y462.length : Int) then (some (rd y462 bt465.1, bt465.2)) else (none)) else (none))) = some (r1, r2) := by first | (rw [hy462]; with_reducible exact H) | (have H2_ := (Option.bind_some _ _).symm.trans H; rw [hy462]; with_reducible exact H2_) | (have H2_ := (Option.bind_some _ _).symm.trans H; with_reducible exact H2_) | with_reducible exact H | (rw [hy462]; exact H) | exact H
    have Ny462 := Aside0.mk hy462
    clear hy462
    replace H := Option.bind_eq_some_iff.mp H
    obtain ⟨⟨t465, t466⟩, A50, H⟩ := H
    replace H : (if 0 ≤ t465 then (if t465 < (y462.length : Int) then (some (rd y462 t465, t466)) else (none)) else (none)) = some (r1, r2) := H
    have A5 := Aside0.mk A50
    clear A50
    by_cases c6 : 0 ≤ t465
    · rw [if_pos c6] at H
      have c6b0 : decide (0 ≤ t465) = true := decide_eq_true c6
      clear c6
      by_cases c7 : t465 < (y462.length : Int)
      · rw [if_pos c7] at H
        have c7b0 : decide (t465 < (y462.length : Int)) = true := decide_eq_true c7
        clear c7
        simp only [Option.some.injEq, Prod.mk.injEq] at H
        obtain ⟨rfl, rfl⟩ := H
        go_enter Try.func39, Try.ntmps39
        go_wp2_with (first | ((with_reducible refine gate_callee (f := 54) rfl ?_); refine goesL_ (some 6) rfl rfl Try.func54 (by kernel_rfl) rfl #[.pointer (some ⟨g, 0, none⟩), .int .i64 16] rfl (by (try simp only [List.map_toArray, List.map_cons, List.map_nil]); first | done | rfl | (simp only [List.length_drop, List.length_take]; rfl)) ?_; (with_reducible refine (spec_l6Rd_pick.calls k g s0_0 s0_1 16 t460 t461 w0 _ ?side1 ?side2 A3.out).mono ?_); (case side1 => repeat (first | (with_reducible first | exact HI0.out | apply IsS63.alloc | apply IsS63.drewN | apply IsS63.drew | apply IsS63.set_1) | exact HI0.out)); (case side2 => repeat (first | (with_reducible first | exact HB.out | apply below_alloc | apply pw_below_drewN | apply below_drew1 | refine below_set ?_ (IsS63.ge HI0.out)) | exact HB.out)); rintro e w8 ⟨rfl, hi, hb, hk⟩; refine ⟨_, rfl, ?_⟩; have n0_ := Aside0.mk (KeepBut.trans (by repeat (first | (with_reducible first | exact HK.out | apply KeepBut.set_ | apply keep_drewN | apply keep_drew | apply keep_alloc) | exact HK.out)) hk (.inl rfl)); have n1_ := Aside0.mk (hb); have n2_ := Aside0.mk (hi); clear HK; clear HB; clear HI0; have HK := n0_; have HB := n1_; have HI0 := n2_; clear n0_ n1_ n2_; (try clear hb); (try clear hb2); (try clear hk); (try clear hi)) | ((with_reducible refine gate_dst (N := 11) rfl ?_); refine Kd.R_lit (Kd.int .i64) _ 3 ?hg (N := 11) ?hd (xs := ([(-1), a1, wrap64 (a1 + 1)] : List Int)) (inner := [.int .i64 (-1), .int .i64 a1, .int .i64 (wrap64 (a1 + 1))]) (ok := fun _ => True) (okp := fun _ => True) ?hr ?hp (fun _ hk => hk) trivial (Below.refl _ _) (Nat.le_refl _) (by simp) ?_; (case hd => rfl); (case hg => rfl); (case hr => first | (go_simp; done) | (go_simp; rfl)); (case hp => exact (Reps.one (show Kd.M (Kd.int .i64) _ _ _ (-1) [.int .i64 (-1)] from rfl) (Reps.one (show Kd.M (Kd.int .i64) _ _ _ a1 [.int .i64 a1] from rfl) (Reps.one (show Kd.M (Kd.int .i64) _ _ _ (wrap64 (a1 + 1)) [.int .i64 (wrap64 (a1 + 1))] from rfl) (Reps.none _ _))))); intro v463 w9 ho10 hb hg_ hnew_; clear hg_ hnew_; (first | rw [← Ny462.out] at ho10 | (simp only [Int.reduceToNat] at ho10; rw [← Ny462.out] at ho10)); have n0_ := Aside0.mk (Kd.R_lower ho10 (keep_size (w := w) (g := g) (row := none) (by repeat (first | (with_reducible first | exact HK.out | apply KeepBut.set_ | apply keep_drewN | apply keep_drew | apply keep_alloc) | exact HK.out)))); have n1_ := Aside0.mk (IsS63.below (by repeat (first | (with_reducible first | exact HI0.out | apply IsS63.alloc | apply IsS63.drewN | apply IsS63.drew | apply IsS63.set_1) | exact HI0.out)) hb); have n2_ := Aside0.mk (KeepBut.trans (by repeat (first | (with_reducible first | exact HK.out | apply KeepBut.set_ | apply keep_drewN | apply keep_drew | apply keep_alloc) | exact HK.out)) (KeepBut.of_below hb g none) (.inl rfl)); have n3_ := Aside0.mk (below_step (by repeat (first | (with_reducible first | exact HB.out | apply below_alloc | apply pw_below_drewN | apply below_drew1 | refine below_set ?_ (IsS63.ge HI0.out)) | exact HB.out)) hb); clear HI0; clear HK; clear HB; have HO464 := n0_; have HI0 := n1_; have HK := n2_; have HB := n3_; clear n0_ n1_ n2_ n3_; clear hb ho10) | ((with_reducible refine gate_callee (f := 54) rfl ?_); refine goesL_ (some 13) rfl rfl Try.func54 (by kernel_rfl) rfl #[.pointer (some ⟨g, 0, none⟩), .int .i64 3] rfl (by (try simp only [List.map_toArray, List.map_cons, List.map_nil]); first | done | rfl | (simp only [List.length_drop, List.length_take]; rfl)) ?_; (with_reducible refine (spec_l6Rd_pick.calls k g s0_0 t461 3 t465 t466 w0 _ ?side1 ?side2 A5.out).mono ?_); (case side1 => repeat (first | (with_reducible first | exact HI0.out | apply IsS63.alloc | apply IsS63.drewN | apply IsS63.drew | apply IsS63.set_1) | exact HI0.out)); (case side2 => repeat (first | (with_reducible first | exact HB.out | apply below_alloc | apply pw_below_drewN | apply below_drew1 | refine below_set ?_ (IsS63.ge HI0.out)) | exact HB.out)); rintro e w11 ⟨rfl, hi, hb, hk⟩; refine ⟨_, rfl, ?_⟩; have n0_ := Aside0.mk (Kd.R_mono (Kd.R_keep (IsS63.apart (show IsS63 w0 _ g s0_0 t461 from by repeat (first | (with_reducible first | exact HI0.out | apply IsS63.alloc | apply IsS63.drewN | apply IsS63.drew | apply IsS63.set_1) | exact HI0.out)) (by (with_reducible repeat (first | apply Kd.R_alloc | apply Kd.R_drewN | apply Kd.R_drew)); exact HO464.out) (by decide)) hk (fun _ h => h.2)) (fun _ h => h.1)); have n1_ := Aside0.mk (KeepBut.trans (by repeat (first | (with_reducible first | exact HK.out | apply KeepBut.set_ | apply keep_drewN | apply keep_drew | apply keep_alloc) | exact HK.out)) hk (.inl rfl)); have n2_ := Aside0.mk (hb); have n3_ := Aside0.mk (hi); clear HO464; clear HK; clear HB; clear HI0; have HO464 := n0_; have HK := n1_; have HB := n2_; have HI0 := n3_; clear n0_ n1_ n2_ n3_; (try clear hb); (try clear hb2); (try clear hk); (try clear hi); obtain ⟨Ao12, co12, eo12⟩ := Kd.R_slice HO464.out; subst eo12; have p467 : 0 ≤ (t465 : Int) := of_decide_eq_true (by first | (with_reducible assumption) | assumption); have q467 : t465 < (y462.length : Int) := of_decide_eq_true (by first | (with_reducible assumption) | assumption); obtain ⟨ad467, e467, hx467_0⟩ := Kd.at_int (Kd.R_reads' HO464.out).2.2 t465 p467 q467; cases e467; replace p467 := eq_true p467; replace q467 := eq_true q467))
        go_ret
        exact ⟨by first | rfl | (simp [errW_none, errW_some] <;> rfl) | (simp [*, errW_none, errW_some] <;> rfl) | (simp [errW_none, errW_some]; exact ⟨rfl, rfl⟩), by repeat (first | (with_reducible first | exact HI0.out | apply IsS63.alloc | apply IsS63.drewN | apply IsS63.drew | apply IsS63.set_1) | exact HI0.out), by repeat (first | (with_reducible first | exact HB.out | apply below_alloc | apply pw_below_drewN | apply below_drew1 | refine below_set ?_ (IsS63.ge HI0.out)) | exact HB.out), by repeat (first | (with_reducible first | exact HK.out | apply KeepBut.set_ | apply keep_drewN | apply keep_drew | apply keep_alloc) | exact HK.out)⟩
      · rw [if_neg c7] at H
        exact absurd H (by simp)
    · rw [if_neg c6] at H
      exact absurd H (by simp)
  · rw [if_neg c4] at H
    have c4b0 : (t460 == 0) = false := beq_eq_false_iff_ne.mpr c4
    have c4b1 : (t460 != 0) = true := bne_iff_ne.mpr c4
    obtain ⟨ji13, hji13⟩ : ∃ j_ : Int, (mn a1 30) = j_ := ⟨_, rfl⟩
    replace H : ((spec_l6Rd_pick.f k s0_0 t461 (wrap64 ((ji13) + 1))).bind fun bt468 => (some (bt468.1, bt468.2))) = some (r1, r2) := by first | (rw [hji13] at H; exact H) | (simp only [hji13] at H ⊢; exact H)
    (try rw [hji13] at A3)
    (try (have hji13h : ji13 ≤ 30 := by (rw [← hji13]; unfold mn; (repeat' split) <;> omega)))
    (try (have hji13g : ji13 ≤ 64 := by omega))
    have hji13_ : (if 30 < a1 then 30 else a1) = ji13 := hji13
    replace H := Option.bind_eq_some_iff.mp H
    obtain ⟨⟨t468, t469⟩, A140, H⟩ := H
    replace H : (some (t468, t469)) = some (r1, r2) := H
    have A14 := Aside0.mk A140
    clear A140
    simp only [Option.some.injEq, Prod.mk.injEq] at H
    obtain ⟨rfl, rfl⟩ := H
    go_enter Try.func39, Try.ntmps39
    go_wp2_with (first | ((with_reducible refine gate_callee (f := 54) rfl ?_); refine goesL_ (some 6) rfl rfl Try.func54 (by kernel_rfl) rfl #[.pointer (some ⟨g, 0, none⟩), .int .i64 16] rfl (by (try simp only [List.map_toArray, List.map_cons, List.map_nil]); first | done | rfl | (simp only [List.length_drop, List.length_take]; rfl)) ?_; (with_reducible refine (spec_l6Rd_pick.calls k g s0_0 s0_1 16 t460 t461 w0 _ ?side1 ?side2 A3.out).mono ?_); (case side1 => repeat (first | (with_reducible first | exact HI0.out | apply IsS63.alloc | apply IsS63.drewN | apply IsS63.drew | apply IsS63.set_1) | exact HI0.out)); (case side2 => repeat (first | (with_reducible first | exact HB.out | apply below_alloc | apply pw_below_drewN | apply below_drew1 | refine below_set ?_ (IsS63.ge HI0.out)) | exact HB.out)); rintro e w15 ⟨rfl, hi, hb, hk⟩; refine ⟨_, rfl, ?_⟩; have n0_ := Aside0.mk (KeepBut.trans (by repeat (first | (with_reducible first | exact HK.out | apply KeepBut.set_ | apply keep_drewN | apply keep_drew | apply keep_alloc) | exact HK.out)) hk (.inl rfl)); have n1_ := Aside0.mk (hb); have n2_ := Aside0.mk (hi); clear HK; clear HB; clear HI0; have HK := n0_; have HB := n1_; have HI0 := n2_; clear n0_ n1_ n2_; (try clear hb); (try clear hb2); (try clear hk); (try clear hi)) | ((with_reducible refine gate_callee (f := 54) rfl ?_); refine goesL_ (some 20) rfl rfl Try.func54 (by kernel_rfl) rfl #[.pointer (some ⟨g, 0, none⟩), .int .i64 (wrap64 ((ji13) + 1))] rfl (by (try simp only [List.map_toArray, List.map_cons, List.map_nil]); first | done | (simp only [hji13]; rfl) | rfl | (simp only [List.length_drop, List.length_take]; rfl)) ?_; (with_reducible refine (spec_l6Rd_pick.calls k g s0_0 t461 (wrap64 ((ji13) + 1)) t468 t469 w0 _ ?side1 ?side2 A14.out).mono ?_); (case side1 => repeat (first | (with_reducible first | exact HI0.out | apply IsS63.alloc | apply IsS63.drewN | apply IsS63.drew | apply IsS63.set_1) | exact HI0.out)); (case side2 => repeat (first | (with_reducible first | exact HB.out | apply below_alloc | apply pw_below_drewN | apply below_drew1 | refine below_set ?_ (IsS63.ge HI0.out)) | exact HB.out)); rintro e w16 ⟨rfl, hi, hb, hk⟩; refine ⟨_, rfl, ?_⟩; have n0_ := Aside0.mk (KeepBut.trans (by repeat (first | (with_reducible first | exact HK.out | apply KeepBut.set_ | apply keep_drewN | apply keep_drew | apply keep_alloc) | exact HK.out)) hk (.inl rfl)); have n1_ := Aside0.mk (hb); have n2_ := Aside0.mk (hi); clear HK; clear HB; clear HI0; have HK := n0_; have HB := n1_; have HI0 := n2_; clear n0_ n1_ n2_; (try clear hb); (try clear hb2); (try clear hk); (try clear hi)))
    go_ret
    exact ⟨by first | rfl | (simp [errW_none, errW_some] <;> rfl) | (simp only [← hji13]; first | rfl | (simp [errW_none, errW_some] <;> rfl)) | (simp [*, errW_none, errW_some] <;> rfl), by repeat (first | (with_reducible first | exact HI0.out | apply IsS63.alloc | apply IsS63.drewN | apply IsS63.drew | apply IsS63.set_1) | exact HI0.out), by repeat (first | (with_reducible first | exact HB.out | apply below_alloc | apply pw_below_drewN | apply below_drew1 | refine below_set ?_ (IsS63.ge HI0.out)) | exact HB.out), by repeat (first | (with_reducible first | exact HK.out | apply KeepBut.set_ | apply keep_drewN | apply keep_drew | apply keep_alloc) | exact HK.out)⟩

end Go.Proofs.Ytfoolgjofinmlaa.P

namespace Go.Proofs.Ytfoolgjofinmlaa.P
open Go.RowKit Go.Proofs.YtfoolgjofinmlaaW.PrintWords Go.Proofs.YtfoolgjofinmlaaW.PrintLast Go.Proofs.YtfoolgjofinmlaaW.PrintMore
attribute [local go_sem] max2_int min2_int max_two min_two max_three min_three max_four min_four   -- for this text's walks alone
set_option linter.unusedVariables false
set_option linter.unusedSimpArgs false

/-! ### spec_DrawMakeTimes: function 21 -/
def spec_DrawMakeTimes.f (k : Nat) (l0 : List Int) : Option (ByteArray × Int) := (spec_l6Open.f l0).bind fun bt470 => ((spec_l91Set.f k bt470.1 bt470.2).bind fun bt473 => ((spec_l91Number.f k bt470.1 bt473.2 20).bind fun bt475 => (some (bt473.1, bt475.1))))
theorem spec_DrawMakeTimes.mono : ∀ a0 k, LeO (spec_DrawMakeTimes.f k a0) (spec_DrawMakeTimes.f (k + 1) a0) := by
  intro a0 k
  unfold spec_DrawMakeTimes.f
  repeat' first
      | (with_reducible exact spec_l91Number.mono _ _ _ _)
      | (with_reducible exact spec_l91Set.mono _ _ _)
      | (with_reducible exact LeO.refl _)
      | (with_reducible exact LeO.none _)
      | (with_reducible refine LeO.ite ?_ ?_)
      | (with_reducible refine LeO.bind ?_ (fun _ => ?_))
      | exact spec_l91Number.mono _ _ _ _
      | exact spec_l91Set.mono _ _ _
      | exact LeO.none _
      | refine LeO.ite ?_ ?_
      | refine LeO.bind ?_ (fun _ => ?_)
set_option maxHeartbeats 8000000 in
set_option maxRecDepth 100000 in
theorem spec_DrawMakeTimes.calls (k : Nat) (A0 : Option Addr) (c0 : Nat) (l0 : List Int) (r1 : ByteArray) (r2 : Int) (w : World) (hr0 : Kd.C (Kd.int .u8) w A0 l0.length l0) (hc0 : l0.length ≤ c0) (h : spec_DrawMakeTimes.f k l0 = some (r1, r2)) :
    Calls Try.prog 21 #[.slice A0 l0.length c0] w fun e w' => e = .returned (.tuple #[.string r1, .int .i64 r2]) ∧ Below w.heap.size w w' := by
  have HR0 := Aside0.mk hr0
  have HC0 := Aside0.mk hc0
  clear hr0 hc0
  have HB := Aside0.mk (Below.refl w.heap.size w)
  have H : ((spec_l6Open.f l0).bind fun bt470 => ((spec_l91Set.f k bt470.1 bt470.2).bind fun bt473 => ((spec_l91Number.f k bt470.1 bt473.2 20).bind fun bt475 => (some (bt473.1, bt475.1))))) = some (r1, r2) := h
  clear h
  replace H := Option.bind_eq_some_iff.mp H
  obtain ⟨⟨t470, t471⟩, A20, H⟩ := H
  replace H : ((spec_l91Set.f k t470 t471).bind fun bt473 => ((spec_l91Number.f k t470 bt473.2 20).bind fun bt475 => (some (bt473.1, bt475.1)))) = some (r1, r2) := H
  have A2 := Aside0.mk A20
  clear A20
  replace H := Option.bind_eq_some_iff.mp H
  obtain ⟨⟨t473, t474⟩, A30, H⟩ := H
  replace H : ((spec_l91Number.f k t470 t474 20).bind fun bt475 => (some (t473, bt475.1))) = some (r1, r2) := H
  have A3 := Aside0.mk A30
  clear A30
  replace H := Option.bind_eq_some_iff.mp H
  obtain ⟨⟨t475, t476⟩, A40, H⟩ := H
  replace H : (some (t473, t475)) = some (r1, r2) := H
  have A4 := Aside0.mk A40
  clear A40
  simp only [Option.some.injEq, Prod.mk.injEq] at H
  obtain ⟨rfl, rfl⟩ := H
  go_enter Try.func21, Try.ntmps21
  go_wp2_with (first | ((with_reducible refine gate_callee (f := 26) rfl ?_); refine goesL_ (some 6) rfl rfl Try.func26 (by kernel_rfl) rfl #[.slice A0 l0.length c0] rfl (by (try simp only [List.map_toArray, List.map_cons, List.map_nil]); first | done | rfl | (simp only [List.length_drop, List.length_take]; rfl)) ?_; (with_reducible refine (spec_l6Open.calls _ _ l0 t470 t471 w _ ?side1 ?side2 ?side3 A2.out).mono ?_); (case side1 => repeat (first | (with_reducible first | exact HB.out | apply below_alloc | apply pw_below_drewN | apply below_drew1) | exact HB.out)); (case side2 => exact HR0.out); (case side3 => exact HC0.out); rintro e w5 ⟨g472, rfl, hi, hb, hb2⟩; refine ⟨_, rfl, ?_⟩; have n0_ := Aside0.mk (hb); have n1_ := Aside0.mk (hi); clear HB; have HB := n0_; have HI472 := n1_; clear n0_ n1_; (try clear hb); (try clear hb2); (try clear hk); (try clear hi)) | ((with_reducible refine gate_callee (f := 27) rfl ?_); refine goesL_ (some 8) rfl rfl Try.func27 (by kernel_rfl) rfl #[.pointer (some ⟨g472, 0, none⟩)] rfl (by (try simp only [List.map_toArray, List.map_cons, List.map_nil]); first | done | rfl | (simp only [List.length_drop, List.length_take]; rfl)) ?_; (with_reducible refine (spec_l91Set.calls k g472 t470 t471 t473 t474 w _ ?side1 ?side2 A3.out).mono ?_); (case side1 => repeat (first | (with_reducible first | exact HI472.out | apply IsS63.alloc | apply IsS63.drewN | apply IsS63.drew | apply IsS63.set_1) | exact HI472.out)); (case side2 => repeat (first | (with_reducible first | exact HB.out | apply below_alloc | apply pw_below_drewN | apply below_drew1 | refine below_set ?_ (IsS63.ge HI472.out)) | exact HB.out)); rintro e w6 ⟨rfl, hi, hb, hk⟩; refine ⟨_, rfl, ?_⟩; have n0_ := Aside0.mk (hb); have n1_ := Aside0.mk (hi); clear HB; clear HI472; have HB := n0_; have HI472 := n1_; clear n0_ n1_; (try clear hb); (try clear hb2); (try clear hk); (try clear hi)) | ((with_reducible refine gate_callee (f := 39) rfl ?_); refine goesL_ (some 10) rfl rfl Try.func39 (by kernel_rfl) rfl #[.pointer (some ⟨g472, 0, none⟩), .int .i64 20] rfl (by (try simp only [List.map_toArray, List.map_cons, List.map_nil]); first | done | rfl | (simp only [List.length_drop, List.length_take]; rfl)) ?_; (with_reducible refine (spec_l91Number.calls k g472 t470 t474 20 t475 t476 w _ ?side1 ?side2 A4.out).mono ?_); (case side1 => repeat (first | (with_reducible first | exact HI472.out | apply IsS63.alloc | apply IsS63.drewN | apply IsS63.drew | apply IsS63.set_1) | exact HI472.out)); (case side2 => repeat (first | (with_reducible first | exact HB.out | apply below_alloc | apply pw_below_drewN | apply below_drew1 | refine below_set ?_ (IsS63.ge HI472.out)) | exact HB.out)); rintro e w7 ⟨rfl, hi, hb, hk⟩; refine ⟨_, rfl, ?_⟩; have n0_ := Aside0.mk (hb); have n1_ := Aside0.mk (hi); clear HB; clear HI472; have HB := n0_; have HI472 := n1_; clear n0_ n1_; (try clear hb); (try clear hb2); (try clear hk); (try clear hi)))
  go_ret2
  exact ⟨by first | rfl | (simp [errW_none, errW_some] <;> rfl) | (simp [*, errW_none, errW_some] <;> rfl) | (simp [errW_none, errW_some]; exact ⟨rfl, rfl⟩), by repeat (first | (with_reducible first | exact HB.out | apply below_alloc | apply pw_below_drewN | apply below_drew1 | refine below_set ?_ (IsS63.ge HI472.out)) | exact HB.out)⟩

end Go.Proofs.Ytfoolgjofinmlaa.P

namespace Go.Proofs.Ytfoolgjofinmlaa.P
open Go.RowKit Go.Proofs.YtfoolgjofinmlaaW.PrintWords Go.Proofs.YtfoolgjofinmlaaW.PrintLast Go.Proofs.YtfoolgjofinmlaaW.PrintMore
attribute [local go_sem] max2_int min2_int max_two min_two max_three min_three max_four min_four   -- for this text's walks alone
set_option linter.unusedVariables false
set_option linter.unusedSimpArgs false

/-! ### spec_MakeTimes: function 23 -/
mutual
def spec_MakeTimes.j0 : Nat → Int → Bool → List Bool → List Bool → Option (ByteArray × Bool)
  | 0, _, _, _, _ => none
  | k + 1, x1, x23, x496000, x496001 => if x23 = true then (some ((⟨#[]⟩ : ByteArray), false)) else (if x1 = 0 then ((spec_l1Ends.f k x496000 x496001).bind fun t497 => (spec_MakeTimes.l0 k (!t497) 0 x496000 x496001)) else (spec_MakeTimes.l1 k x1 (([] : List Bool)) 0 x496000 x496001))
def spec_MakeTimes.l0 : Nat → Bool → Int → List Bool → List Bool → Option (ByteArray × Bool)
  | 0, _, _, _, _ => none
  | k + 1, x8, x9, x496000, x496001 => if x9 < (x496000.length : Int) then (if x8 = true then (spec_MakeTimes.l0 k true (wrap64 (x9 + 1)) x496000 x496001) else (if 0 ≤ x9 then (spec_MakeTimes.l0 k (rdOf false x496000 x9) (wrap64 (x9 + 1)) x496000 x496001) else (none))) else ((spec_l1Done.f k (([x8] : List Bool)) (([false] : List Bool))).bind fun bt505 => (some (bt505.1, bt505.2)))
def spec_MakeTimes.l1 : Nat → Int → List Bool → Int → List Bool → List Bool → Option (ByteArray × Bool)
  | 0, _, _, _, _, _ => none
  | k + 1, x1, x10, x11, x496000, x496001 => if x11 < (wrap64 (x1 * (wrap64 ((x496000.length : Int) + (x496001.length : Int))))) then (if x1 = 0 then (none) else (if (Int.tmod x11 x1) = 0 then ((spec_l1Has.f x496000 x496001 (wrap64 (Int.tdiv x11 x1))).bind fun t510 => (if x10.length < 140737488355328 then (spec_MakeTimes.l1 k x1 (x10 ++ [t510]) (wrap64 (x11 + 1)) x496000 x496001) else (none))) else (if x10.length < 140737488355328 then (spec_MakeTimes.l1 k x1 (x10 ++ [false]) (wrap64 (x11 + 1)) x496000 x496001) else (none)))) else ((spec_l2Fill.f k x10 (wrap64 (x1 * (x496000.length : Int)))).bind fun bt517 => (some (bt517.1, bt517.2)))
end
def spec_MakeTimes.f (k : Nat) (a0 : ByteArray) (a1 : Int) : Option (ByteArray × Bool) := (spec_l1Read.f k a0).bind fun bt488 => (if bt488.2.2 = true then ((spec_l6In.f a1 0 20).bind fun t496 => (spec_MakeTimes.j0 k a1 (!t496) bt488.1 bt488.2.1)) else (spec_MakeTimes.j0 k a1 true bt488.1 bt488.2.1))
theorem spec_MakeTimes.mono_l : ∀ k, (∀ y0 y1 y2 y3, LeO (spec_MakeTimes.j0 k y0 y1 y2 y3) (spec_MakeTimes.j0 (k + 1) y0 y1 y2 y3)) ∧ (∀ y0 y1 y2 y3, LeO (spec_MakeTimes.l0 k y0 y1 y2 y3) (spec_MakeTimes.l0 (k + 1) y0 y1 y2 y3)) ∧ (∀ y0 y1 y2 y3 y4, LeO (spec_MakeTimes.l1 k y0 y1 y2 y3 y4) (spec_MakeTimes.l1 (k + 1) y0 y1 y2 y3 y4))
  | 0 => ⟨fun _ _ _ _ r h => by simp [spec_MakeTimes.j0] at h, fun _ _ _ _ r h => by simp [spec_MakeTimes.l0] at h, fun _ _ _ _ _ r h => by simp [spec_MakeTimes.l1] at h⟩
  | k + 1 => by
    obtain ⟨ih0, ih1, ih2⟩ := spec_MakeTimes.mono_l k
    refine ⟨?_, ?_, ?_⟩
    · intro y0 y1 y2 y3
      unfold spec_MakeTimes.j0
      repeat' first
      | (with_reducible exact ih0 _ _ _ _)
      | (with_reducible exact ih1 _ _ _ _)
      | (with_reducible exact ih2 _ _ _ _ _)
      | (with_reducible exact spec_l1Done.mono _ _ _)
      | (with_reducible exact spec_l1Ends.mono _ _ _)
      | (with_reducible exact spec_l1Read.mono _ _)
      | (with_reducible exact spec_l2Fill.mono _ _ _)
      | (with_reducible exact LeO.refl _)
      | (with_reducible exact LeO.none _)
      | (with_reducible refine LeO.ite ?_ ?_)
      | (with_reducible refine LeO.bind ?_ (fun _ => ?_))
      | exact ih0 _ _ _ _
      | exact ih1 _ _ _ _
      | exact ih2 _ _ _ _ _
      | exact spec_l1Done.mono _ _ _
      | exact spec_l1Ends.mono _ _ _
      | exact spec_l1Read.mono _ _
      | exact spec_l2Fill.mono _ _ _
      | exact LeO.none _
      | refine LeO.ite ?_ ?_
      | refine LeO.bind ?_ (fun _ => ?_)
    · intro y0 y1 y2 y3
      unfold spec_MakeTimes.l0
      repeat' first
      | (with_reducible exact ih0 _ _ _ _)
      | (with_reducible exact ih1 _ _ _ _)
      | (with_reducible exact ih2 _ _ _ _ _)
      | (with_reducible exact spec_l1Done.mono _ _ _)
      | (with_reducible exact spec_l1Ends.mono _ _ _)
      | (with_reducible exact spec_l1Read.mono _ _)
      | (with_reducible exact spec_l2Fill.mono _ _ _)
      | (with_reducible exact LeO.refl _)
      | (with_reducible exact LeO.none _)
      | (with_reducible refine LeO.ite ?_ ?_)
      | (with_reducible refine LeO.bind ?_ (fun _ => ?_))
      | exact ih0 _ _ _ _
      | exact ih1 _ _ _ _
      | exact ih2 _ _ _ _ _
      | exact spec_l1Done.mono _ _ _
      | exact spec_l1Ends.mono _ _ _
      | exact spec_l1Read.mono _ _
      | exact spec_l2Fill.mono _ _ _
      | exact LeO.none _
      | refine LeO.ite ?_ ?_
      | refine LeO.bind ?_ (fun _ => ?_)
    · intro y0 y1 y2 y3 y4
      unfold spec_MakeTimes.l1
      repeat' first
      | (with_reducible exact ih0 _ _ _ _)
      | (with_reducible exact ih1 _ _ _ _)
      | (with_reducible exact ih2 _ _ _ _ _)
      | (with_reducible exact spec_l1Done.mono _ _ _)
      | (with_reducible exact spec_l1Ends.mono _ _ _)
      | (with_reducible exact spec_l1Read.mono _ _)
      | (with_reducible exact spec_l2Fill.mono _ _ _)
      | (with_reducible exact LeO.refl _)
      | (with_reducible exact LeO.none _)
      | (with_reducible refine LeO.ite ?_ ?_)
      | (with_reducible refine LeO.bind ?_ (fun _ => ?_))
      | exact ih0 _ _ _ _
      | exact ih1 _ _ _ _
      | exact ih2 _ _ _ _ _
      | exact spec_l1Done.mono _ _ _
      | exact spec_l1Ends.mono _ _ _
      | exact spec_l1Read.mono _ _
      | exact spec_l2Fill.mono _ _ _
      | exact LeO.none _
      | refine LeO.ite ?_ ?_
      | refine LeO.bind ?_ (fun _ => ?_)
theorem spec_MakeTimes.mono : ∀ a0 a1 k, LeO (spec_MakeTimes.f k a0 a1) (spec_MakeTimes.f (k + 1) a0 a1) := by
  intro a0 a1 k
  obtain ⟨ih0, ih1, ih2⟩ := spec_MakeTimes.mono_l k
  unfold spec_MakeTimes.f
  repeat' first
      | (with_reducible exact ih0 _ _ _ _)
      | (with_reducible exact ih1 _ _ _ _)
      | (with_reducible exact ih2 _ _ _ _ _)
      | (with_reducible exact spec_l1Done.mono _ _ _)
      | (with_reducible exact spec_l1Ends.mono _ _ _)
      | (with_reducible exact spec_l1Read.mono _ _)
      | (with_reducible exact spec_l2Fill.mono _ _ _)
      | (with_reducible exact LeO.refl _)
      | (with_reducible exact LeO.none _)
      | (with_reducible refine LeO.ite ?_ ?_)
      | (with_reducible refine LeO.bind ?_ (fun _ => ?_))
      | exact ih0 _ _ _ _
      | exact ih1 _ _ _ _
      | exact ih2 _ _ _ _ _
      | exact spec_l1Done.mono _ _ _
      | exact spec_l1Ends.mono _ _ _
      | exact spec_l1Read.mono _ _
      | exact spec_l2Fill.mono _ _ _
      | exact LeO.none _
      | refine LeO.ite ?_ ?_
      | refine LeO.bind ?_ (fun _ => ?_)
def spec_MakeTimes.T15 : Bool × List (List Nat × List Nat) := (true, [([], []), ([], []), ([], []), ([1, 2], [1, 2]), ([3], [3]), ([4], [4]), ([5], [5]), ([5], [5]), ([5], [5]), ([7, 8, 5], [5, 7, 8]), ([6, 9, 5, 5], [5, 6, 9]), ([5, 10], [5, 10]), ([11], [11]), ([0, 12, 10], [0, 12]), ([13, 13, 0, 1, 2, 3, 4, 5, 6, 7, 8, 9, 10, 11, 12, 13], [0, 13])])
def spec_MakeTimes.B15 : List Nat := [0, 0, 0, 6, 14, 30, 62, 62, 62, 446, 1022, 2046, 4094, 8191, 16383]
theorem spec_MakeTimes.tab15 : rtab .any (opsOf Try.f23 15) = spec_MakeTimes.T15 := by kernel_rfl
theorem spec_MakeTimes.bits15 : waitsOk spec_MakeTimes.T15.2 spec_MakeTimes.B15 = true := by kernel_rfl
set_option maxHeartbeats 8000000 in
set_option maxRecDepth 100000 in
theorem spec_MakeTimes.calls (k : Nat) (a0 : ByteArray) (a1 : Int) (r1 : ByteArray) (r2 : Bool) (w : World) (h : spec_MakeTimes.f k a0 a1 = some (r1, r2)) :
    Calls Try.prog 23 #[.string a0, .int .i64 a1] w fun e w' => e = .returned (.tuple #[.string r1, .bool r2]) ∧ Below w.heap.size w w' := by
  have hu55 := Try.underlying55
  have HB := Aside0.mk (Below.refl w.heap.size w)
  have H : ((spec_l1Read.f k a0).bind fun bt488 => (if bt488.2.2 = true then ((spec_l6In.f a1 0 20).bind fun t496 => (spec_MakeTimes.j0 k a1 (!t496) bt488.1 bt488.2.1)) else (spec_MakeTimes.j0 k a1 true bt488.1 bt488.2.1))) = some (r1, r2) := h
  clear h
  replace H := Option.bind_eq_some_iff.mp H
  obtain ⟨⟨t488, t491, t494⟩, A30, H⟩ := H
  replace H : (if t494 = true then ((spec_l6In.f a1 0 20).bind fun t496 => (spec_MakeTimes.j0 k a1 (!t496) t488 t491)) else (spec_MakeTimes.j0 k a1 true t488 t491)) = some (r1, r2) := H
  have A3 := Aside0.mk A30
  clear A30
  have HC4 := Aside0.mk H
  clear H
  go_enter Try.func23, Try.ntmps23
  go_upto_region 2 with (first | ((with_reducible refine gate_callee (f := 45) rfl ?_); refine goesL_ (some 14) rfl rfl Try.func45 (by kernel_rfl) rfl #[.string a0] rfl (by (try simp only [List.map_toArray, List.map_cons, List.map_nil]); first | done | rfl | (simp only [List.length_drop, List.length_take]; rfl)) ?_; (with_reducible refine (spec_l1Read.calls k a0 t488 t491 t494 _ A3.out).mono ?_); rintro e w5 ⟨v489, v492, rfl, ho0, ho1, hb⟩; refine ⟨_, rfl, ?_⟩; have n0_ := Aside0.mk (Kd.R_lower ho0 (below_size (by repeat (first | (with_reducible first | exact HB.out | apply below_alloc | apply pw_below_drewN | apply below_drew1) | exact HB.out)))); have n1_ := Aside0.mk (Kd.R_lower ho1 (below_size (by repeat (first | (with_reducible first | exact HB.out | apply below_alloc | apply pw_below_drewN | apply below_drew1) | exact HB.out)))); have n2_ := Aside0.mk (below_step (by repeat (first | (with_reducible first | exact HB.out | apply below_alloc | apply pw_below_drewN | apply below_drew1) | exact HB.out)) hb); clear HB; have HO490 := n0_; have HO493 := n1_; have HB := n2_; clear n0_ n1_ n2_; (try clear hb); (try clear hb2); (try clear hk); (try clear hi); (try clear ho0); (try clear ho1)) | ((with_reducible refine gate_dst (N := 6) rfl ?_); refine box_event ?hg (N := 6) ?hd (cs := #[.slice none 0 0, .slice none 0 0]) (t := 55) ?hr ?_; (case hd => rfl); (case hg => rfl); (case hr => first | (go_simp; done) | (go_simp; rfl)); intro gb495 hg w6 hbox hb; have n0_ := Aside0.mk (Kd.R_below (by (with_reducible repeat (first | apply Kd.R_alloc | apply Kd.R_drewN | apply Kd.R_drew)); exact HO490.out) hb); have n1_ := Aside0.mk (Kd.R_below (by (with_reducible repeat (first | apply Kd.R_alloc | apply Kd.R_drewN | apply Kd.R_drew)); exact HO493.out) hb); have n2_ := Aside0.mk (below_step (by repeat (first | (with_reducible first | exact HB.out | apply below_alloc | apply pw_below_drewN | apply below_drew1) | exact HB.out)) hb); have n3_ := Aside0.mk (hbox); have n4_ := Aside0.mk ((by rw [hg]; exact (below_size (by repeat (first | (with_reducible first | exact HB.out | apply below_alloc | apply pw_below_drewN | apply below_drew1) | exact HB.out))) : w.heap.size ≤ gb495)); have n5_ := Aside0.mk ((by rw [hg]; exact (below_size (by repeat (first | (with_reducible first | exact HB.out | apply below_alloc | apply pw_below_drewN | apply below_drew1) | exact HB.out))) : w.heap.size ≤ gb495)); clear HO490; clear HO493; clear HB; have HO490 := n0_; have HO493 := n1_; have HB := n2_; have BK495 := n3_; have GW495 := n4_; have GE495 := n5_; clear n0_ n1_ n2_ n3_ n4_ n5_; clear hb hbox hg; obtain ⟨Ao7, co7, eo7⟩ := Kd.R_slice HO490.out; subst eo7; have hcz8_0 : w6.cell? ⟨gb495, 0, none⟩ = some (.slice none 0 0) := (blk_cell BK495.out 0).trans rfl; have hcz8_1 : w6.cell? ⟨gb495, 1, none⟩ = some (.slice none 0 0) := (blk_cell BK495.out 1).trans rfl; have hfz8_0 := blk_frozen BK495.out 0; have hfz8_1 := blk_frozen BK495.out 1; obtain ⟨Ao9, co9, eo9⟩ := Kd.R_slice HO493.out; subst eo9))
  (try simp only [Act.put, List.setIfInBounds_toArray, List.set_cons_zero, List.set_cons_succ])
  go_cut [23] (fun v23 wc => ∃ (kq : Nat) (x23_3 : Bool), v23 = .bool x23_3 ∧ Aside0 (spec_MakeTimes.j0 kq a1 x23_3 t488 t491 = some (r1, r2)) ∧ Aside0 (kq ≤ k) ∧ Aside0 (Kd.R Kd.bool 4 wc w.heap.size (fun k_ => some k_ ≠ ((.slice Ao9 t491.length co9) : Value).ownBlock) (.slice Ao7 t488.length co7) t488) ∧ Aside0 (Kd.R Kd.bool 4 wc w.heap.size (fun k_ => some k_ ≠ ((.slice Ao7 t488.length co7) : Value).ownBlock) (.slice Ao9 t491.length co9) t491) ∧ Aside0 (wc.heap[gb495]? = some (.cells #[(.slice Ao7 t488.length co7), (.slice Ao9 t491.length co9)] 55 (0, 0))) ∧ Aside0 (Below w.heap.size w wc))
  case first =>
    have H := HC4.out
    clear HC4
    by_cases c10 : t494 = true
    · subst c10
      have H1 : ((spec_l6In.f a1 0 20).bind fun t496 => (spec_MakeTimes.j0 k a1 (!t496) t488 t491)) = some (r1, r2) := by rw [if_pos rfl] at H; exact H
      clear H
      have H := H1
      clear H1
      replace H := Option.bind_eq_some_iff.mp H
      obtain ⟨t496, A110, H⟩ := H
      replace H : (spec_MakeTimes.j0 k a1 (!t496) t488 t491) = some (r1, r2) := H
      have A11 := Aside0.mk A110
      clear A110
      have H' := Aside0.mk H
      clear H
      go_wp2_with (first | (go_at_call 46; (with_reducible refine (spec_l6In.calls a1 0 20 t496 _ A11.out).mono ?_); rintro e w' ⟨rfl, ⟨nd, rfl⟩⟩))
      go_meet
      case rel => exact ⟨_, (!t496), (by first | rfl | (simp; done) | (simp [*]; done) | (simp [Int.tmod_eq_emod_of_nonneg]; done)), H', ⟨by first | omega | exact Nat.le_refl _⟩, ⟨by (with_reducible repeat (first | apply Kd.R_alloc | apply Kd.R_drewN | apply Kd.R_drew)); exact Kd.R_mono (Kd.R_far (p := ⟨gb495, 1, none⟩) (Kd.R_far (p := ⟨gb495, 0, none⟩) (Kd.R_types HO490.out BK495.out (by decide)) (fun _ hk => hk.2) (.slice Ao7 t488.length co7)) (fun _ hk => hk.2) (.slice Ao9 t491.length co9)) (fun _ hk => hk.1)⟩, ⟨by (with_reducible repeat (first | apply Kd.R_alloc | apply Kd.R_drewN | apply Kd.R_drew)); exact Kd.R_mono (Kd.R_far (p := ⟨gb495, 1, none⟩) (Kd.R_far (p := ⟨gb495, 0, none⟩) (Kd.R_types HO493.out BK495.out (by decide)) (fun _ hk => hk.2) (.slice Ao7 t488.length co7)) (fun _ hk => hk.2) (.slice Ao9 t491.length co9)) (fun _ hk => hk.1)⟩, ⟨by (with_reducible repeat (first | refine blk_drewN ?_ _ | refine blk_drew ?_ | refine blk_alloc ?_ _)); refine blk_put (cs := #[.slice Ao7 t488.length co7, .slice none 0 0]) ?_ 1 _ rfl; (with_reducible repeat (first | refine blk_drewN ?_ _ | refine blk_drew ?_ | refine blk_alloc ?_ _)); refine blk_put (cs := #[.slice none 0 0, .slice none 0 0]) ?_ 0 _ rfl; (with_reducible repeat (first | refine blk_drewN ?_ _ | refine blk_drew ?_ | refine blk_alloc ?_ _)); exact BK495.out⟩, ⟨by repeat (first | (with_reducible first | exact HB.out | apply below_alloc | apply pw_below_drewN | apply below_drew1 | refine below_set ?_ GE495.out) | exact HB.out)⟩⟩
    · replace c10 := Bool.eq_false_iff.mpr c10
      subst c10
      have H1 : (spec_MakeTimes.j0 k a1 true t488 t491) = some (r1, r2) := by rw [if_neg (show ¬ (false = true) by decide)] at H; exact H
      clear H
      have H := H1
      clear H1
      have H' := Aside0.mk H
      clear H
      go_wp2
      go_meet
      case rel => exact ⟨_, (true), (by first | rfl | (simp; done) | (simp [*]; done) | (simp [Int.tmod_eq_emod_of_nonneg]; done)), H', ⟨by first | omega | exact Nat.le_refl _⟩, ⟨by (with_reducible repeat (first | apply Kd.R_alloc | apply Kd.R_drewN | apply Kd.R_drew)); exact Kd.R_mono (Kd.R_far (p := ⟨gb495, 1, none⟩) (Kd.R_far (p := ⟨gb495, 0, none⟩) (Kd.R_types HO490.out BK495.out (by decide)) (fun _ hk => hk.2) (.slice Ao7 t488.length co7)) (fun _ hk => hk.2) (.slice Ao9 t491.length co9)) (fun _ hk => hk.1)⟩, ⟨by (with_reducible repeat (first | apply Kd.R_alloc | apply Kd.R_drewN | apply Kd.R_drew)); exact Kd.R_mono (Kd.R_far (p := ⟨gb495, 1, none⟩) (Kd.R_far (p := ⟨gb495, 0, none⟩) (Kd.R_types HO493.out BK495.out (by decide)) (fun _ hk => hk.2) (.slice Ao7 t488.length co7)) (fun _ hk => hk.2) (.slice Ao9 t491.length co9)) (fun _ hk => hk.1)⟩, ⟨by (with_reducible repeat (first | refine blk_drewN ?_ _ | refine blk_drew ?_ | refine blk_alloc ?_ _)); refine blk_put (cs := #[.slice Ao7 t488.length co7, .slice none 0 0]) ?_ 1 _ rfl; (with_reducible repeat (first | refine blk_drewN ?_ _ | refine blk_drew ?_ | refine blk_alloc ?_ _)); refine blk_put (cs := #[.slice none 0 0, .slice none 0 0]) ?_ 0 _ rfl; (with_reducible repeat (first | refine blk_drewN ?_ _ | refine blk_drew ?_ | refine blk_alloc ?_ _)); exact BK495.out⟩, ⟨by repeat (first | (with_reducible first | exact HB.out | apply below_alloc | apply pw_below_drewN | apply below_drew1 | refine below_set ?_ GE495.out) | exact HB.out)⟩⟩
  case rest =>
    clear HC4
    try clear c1
    try clear c2
    try clear p2
    try clear c4
    try clear c10
    try clear hcz8_0
    try clear hcz8_1
    try clear hfz8_0
    try clear hfz8_1
    obtain ⟨kq, x23_3, rfl, HA, HJ3, HO_496000, HO_496001, BK495, HB⟩ := hcut
    cases kq with
    | zero => exact absurd HA.out (by simp [spec_MakeTimes.j0])
    | succ kj3 =>
      have H := HA.out
      clear HA
      simp only [spec_MakeTimes.j0] at H
      by_cases c12 : x23_3 = true
      · subst c12
        have H1 : (some ((⟨#[]⟩ : ByteArray), false)) = some (r1, r2) := by rw [if_pos rfl] at H; exact H
        clear H
        have H := H1
        clear H1
        simp only [Option.some.injEq, Prod.mk.injEq] at H
        obtain ⟨rfl, rfl⟩ := H
        go_wp2
        go_ret2
        exact ⟨by first | rfl | (simp [errW_none, errW_some] <;> rfl) | (simp [*, errW_none, errW_some] <;> rfl) | (simp [errW_none, errW_some]; exact ⟨rfl, rfl⟩), by repeat (first | (with_reducible first | exact HB.out | apply below_alloc | apply pw_below_drewN | apply below_drew1 | refine below_set ?_ GE495.out) | exact HB.out)⟩
      · replace c12 := Bool.eq_false_iff.mpr c12
        subst c12
        have H1 : (if a1 = 0 then ((spec_l1Ends.f kj3 t488 t491).bind fun t497 => (spec_MakeTimes.l0 kj3 (!t497) 0 t488 t491)) else (spec_MakeTimes.l1 kj3 a1 (([] : List Bool)) 0 t488 t491)) = some (r1, r2) := by rw [if_neg (show ¬ (false = true) by decide)] at H; exact H
        clear H
        have H := H1
        clear H1
        by_cases c13 : a1 = 0
        · rw [if_pos c13] at H
          have c13b0 : (a1 == 0) = true := beq_iff_eq.mpr c13
          have c13b1 : (a1 != 0) = false := bne_eq_false_iff_eq.mpr c13
          clear c13
          replace H := Option.bind_eq_some_iff.mp H
          obtain ⟨t497, A140, H⟩ := H
          replace H : (spec_MakeTimes.l0 kj3 (!t497) 0 t488 t491) = some (r1, r2) := H
          have A14 := Aside0.mk A140
          clear A140
          have H' := Aside0.mk H
          clear H
          have hcz15_0 : wc.cell? ⟨gb495, 0, none⟩ = some (.slice Ao7 t488.length co7) := (blk_cell BK495.out 0).trans rfl
          have hcz15_1 : wc.cell? ⟨gb495, 1, none⟩ = some (.slice Ao9 t491.length co9) := (blk_cell BK495.out 1).trans rfl
          have hfz15_0 := blk_frozen BK495.out 0
          have hfz15_1 := blk_frozen BK495.out 1
          go_wp2_with (first | ((with_reducible refine gate_callee (f := 47) rfl ?_); refine goesL_ (some 27) rfl rfl Try.func47 (by kernel_rfl) rfl #[.agg #[.slice Ao7 t488.length co7, .slice Ao9 t491.length co9]] rfl (by (try simp only [List.map_toArray, List.map_cons, List.map_nil]); first | done | rfl | (simp only [List.length_drop, List.length_take]; rfl)) ?_; (with_reducible refine (spec_l1Ends.calls kj3 _ _ t488 _ _ t491 t497 _ ?side1 ?side2 ?side3 ?side4 A14.out).mono ?_); (case side1 => repeat (first | exact (Kd.R_reads' HO_496000.out).2.2 | (with_reducible refine Kd.C_alloc ?_ _) | (with_reducible refine Kd.C_drewN ?_ _) | (with_reducible refine Kd.C_drew ?_))); (case side2 => exact (Kd.R_reads' HO_496000.out).2.1); (case side3 => repeat (first | exact (Kd.R_reads' HO_496001.out).2.2 | (with_reducible refine Kd.C_alloc ?_ _) | (with_reducible refine Kd.C_drewN ?_ _) | (with_reducible refine Kd.C_drew ?_))); (case side4 => exact (Kd.R_reads' HO_496001.out).2.1); rintro e w16 ⟨rfl, hb⟩; refine ⟨_, rfl, ?_⟩; have n0_ := Aside0.mk (Kd.R_below (by (with_reducible repeat (first | apply Kd.R_alloc | apply Kd.R_drewN | apply Kd.R_drew)); exact HO_496000.out) hb); have n1_ := Aside0.mk (Kd.R_below (by (with_reducible repeat (first | apply Kd.R_alloc | apply Kd.R_drewN | apply Kd.R_drew)); exact HO_496001.out) hb); have n2_ := Aside0.mk (blk_below (g := gb495) (o := .cells #[.slice Ao7 t488.length co7, .slice Ao9 t491.length co9] 55 (0, 0)) (by (with_reducible repeat (first | refine blk_drewN ?_ _ | refine blk_drew ?_ | refine blk_alloc ?_ _)); exact BK495.out) hb); have n3_ := Aside0.mk (below_step (by repeat (first | (with_reducible first | exact HB.out | apply below_alloc | apply pw_below_drewN | apply below_drew1 | refine below_set ?_ GE495.out) | exact HB.out)) hb); clear HO_496000; clear HO_496001; clear BK495; clear HB; have HO_496000 := n0_; have HO_496001 := n1_; have BK495 := n2_; have HB := n3_; clear n0_ n1_ n2_ n3_; (try clear hb); (try clear hb2); (try clear hk); (try clear hi)))
          go_loopg [8, 9] kj3 (fun kq v8 v9 w' => ∃ (x8_2 : Bool) (x9_2 : Int), v8 = .bool x8_2 ∧ v9 = .int .i64 x9_2 ∧ Aside0 (spec_MakeTimes.l0 kq x8_2 x9_2 t488 t491 = some (r1, r2)) ∧ Aside0 (kq ≤ kj3) ∧ Aside0 (Kd.R Kd.bool 4 w' w.heap.size (fun k_ => some k_ ≠ ((.slice Ao9 t491.length co9) : Value).ownBlock) (.slice Ao7 t488.length co7) t488) ∧ Aside0 (Kd.R Kd.bool 4 w' w.heap.size (fun k_ => some k_ ≠ ((.slice Ao7 t488.length co7) : Value).ownBlock) (.slice Ao9 t491.length co9) t491) ∧ Aside0 (w'.heap[gb495]? = some (.cells #[(.slice Ao7 t488.length co7), (.slice Ao9 t491.length co9)] 55 (0, 0))) ∧ Aside0 (Below w.heap.size w w'))
          case atStart => exact ⟨(!t497), (0), (by first | rfl | (simp; done) | (simp [*]; done) | (simp [Int.tmod_eq_emod_of_nonneg]; done)), (by first | rfl | (simp; done) | (simp [*]; done) | (simp [Int.tmod_eq_emod_of_nonneg]; done)), H', ⟨Nat.le_refl _⟩, ⟨by (with_reducible repeat (first | apply Kd.R_alloc | apply Kd.R_drewN | apply Kd.R_drew)); exact HO_496000.out⟩, ⟨by (with_reducible repeat (first | apply Kd.R_alloc | apply Kd.R_drewN | apply Kd.R_drew)); exact HO_496001.out⟩, ⟨by (with_reducible repeat (first | refine blk_drewN ?_ _ | refine blk_drew ?_ | refine blk_alloc ?_ _)); exact BK495.out⟩, ⟨by repeat (first | (with_reducible first | exact HB.out | apply below_alloc | apply pw_below_drewN | apply below_drew1 | refine below_set ?_ GE495.out) | exact HB.out)⟩⟩
          case round =>
            clear H'
            try clear c1
            try clear c2
            try clear p2
            try clear c4
            try clear c10
            try clear c12
            try clear c13
            try clear c13b0
            try clear c13b1
            try clear hcz15_0
            try clear hcz15_1
            try clear hcz8_0
            try clear hcz8_1
            try clear hfz15_0
            try clear hfz15_1
            try clear hfz8_0
            try clear hfz8_1
            try clear p2
            obtain ⟨x8_2, x9_2, rfl, rfl, HA, HK2, HO_496000, HO_496001, BK495, HB⟩ := hrel
            cases gk with
            | zero => exact absurd HA.out (by simp [spec_MakeTimes.l0])
            | succ k2 =>
              have H := HA.out
              clear HA
              simp only [spec_MakeTimes.l0] at H
              by_cases c17 : x9_2 < (t488.length : Int)
              · rw [if_pos c17] at H
                have c17b0 : decide (x9_2 < (t488.length : Int)) = true := decide_eq_true c17
                clear c17
                by_cases c18 : x8_2 = true
                · subst c18
                  have H1 : (spec_MakeTimes.l0 k2 true (wrap64 (x9_2 + 1)) t488 t491) = some (r1, r2) := by rw [if_pos rfl] at H; exact H
                  clear H
                  have H := H1
                  clear H1
                  have H' := Aside0.mk H
                  clear H
                  have hcz19_0 : wr.cell? ⟨gb495, 0, none⟩ = some (.slice Ao7 t488.length co7) := (blk_cell BK495.out 0).trans rfl
                  have hcz19_1 : wr.cell? ⟨gb495, 1, none⟩ = some (.slice Ao9 t491.length co9) := (blk_cell BK495.out 1).trans rfl
                  have hfz19_0 := blk_frozen BK495.out 0
                  have hfz19_1 := blk_frozen BK495.out 1
                  go_wp2
                  go_roundg k2
                  case measure => have := HJ3.out; have := HK2.out; omega
                  case rel => exact ⟨(true), (wrap64 (x9_2 + 1)), (by first | rfl | (simp; done) | (simp [*]; done) | (simp [Int.tmod_eq_emod_of_nonneg]; done)), (by first | rfl | (simp; done) | (simp [*]; done) | (simp [Int.tmod_eq_emod_of_nonneg]; done)), H', ⟨by have := HJ3.out; have := HK2.out; omega⟩, ⟨by (with_reducible repeat (first | apply Kd.R_alloc | apply Kd.R_drewN | apply Kd.R_drew)); exact HO_496000.out⟩, ⟨by (with_reducible repeat (first | apply Kd.R_alloc | apply Kd.R_drewN | apply Kd.R_drew)); exact HO_496001.out⟩, ⟨by (with_reducible repeat (first | refine blk_drewN ?_ _ | refine blk_drew ?_ | refine blk_alloc ?_ _)); exact BK495.out⟩, ⟨by repeat (first | (with_reducible first | exact HB.out | apply below_alloc | apply pw_below_drewN | apply below_drew1 | refine below_set ?_ GE495.out) | exact HB.out)⟩⟩
                · replace c18 := Bool.eq_false_iff.mpr c18
                  subst c18
                  have H1 : (if 0 ≤ x9_2 then (spec_MakeTimes.l0 k2 (rdOf false t488 x9_2) (wrap64 (x9_2 + 1)) t488 t491) else (none)) = some (r1, r2) := by rw [if_neg (show ¬ (false = true) by decide)] at H; exact H
                  clear H
                  have H := H1
                  clear H1
                  by_cases c20 : 0 ≤ x9_2
                  · rw [if_pos c20] at H
                    have c20b0 : decide (0 ≤ x9_2) = true := decide_eq_true c20
                    clear c20
                    have H' := Aside0.mk H
                    clear H
                    have hcz21_0 : wr.cell? ⟨gb495, 0, none⟩ = some (.slice Ao7 t488.length co7) := (blk_cell BK495.out 0).trans rfl
                    have hcz21_1 : wr.cell? ⟨gb495, 1, none⟩ = some (.slice Ao9 t491.length co9) := (blk_cell BK495.out 1).trans rfl
                    have hfz21_0 := blk_frozen BK495.out 0
                    have hfz21_1 := blk_frozen BK495.out 1
                    have p498 : 0 ≤ (x9_2 : Int) := of_decide_eq_true (by first | (with_reducible assumption) | assumption)
                    have q498 : x9_2 < (t488.length : Int) := of_decide_eq_true (by first | (with_reducible assumption) | assumption)
                    obtain ⟨ad498, e498, hx498_0⟩ := Kd.at_bool (Kd.R_reads' HO_496000.out).2.2 x9_2 p498 q498
                    cases e498
                    replace p498 := eq_true p498
                    replace q498 := eq_true q498
                    go_wp2
                    go_roundg k2
                    case measure => have := HJ3.out; have := HK2.out; omega
                    case rel => exact ⟨(rdOf false t488 x9_2), (wrap64 (x9_2 + 1)), (by first | rfl | (simp; done) | (simp [*]; done) | (simp [Int.tmod_eq_emod_of_nonneg]; done)), (by first | rfl | (simp; done) | (simp [*]; done) | (simp [Int.tmod_eq_emod_of_nonneg]; done)), H', ⟨by have := HJ3.out; have := HK2.out; omega⟩, ⟨by (with_reducible repeat (first | apply Kd.R_alloc | apply Kd.R_drewN | apply Kd.R_drew)); exact HO_496000.out⟩, ⟨by (with_reducible repeat (first | apply Kd.R_alloc | apply Kd.R_drewN | apply Kd.R_drew)); exact HO_496001.out⟩, ⟨by (with_reducible repeat (first | refine blk_drewN ?_ _ | refine blk_drew ?_ | refine blk_alloc ?_ _)); exact BK495.out⟩, ⟨by repeat (first | (with_reducible first | exact HB.out | apply below_alloc | apply pw_below_drewN | apply below_drew1 | refine below_set ?_ GE495.out) | exact HB.out)⟩⟩
                  · rw [if_neg c20] at H
                    exact absurd H (by simp)
              · rw [if_neg c17] at H
                have c17b0 : decide (x9_2 < (t488.length : Int)) = false := decide_eq_false c17
                clear c17
                obtain ⟨y499, hy499⟩ : ∃ y_ : List Bool, y_ = (([x8_2] : List Bool)) := ⟨_, rfl⟩
                replace H : ((spec_l1Done.f k2 y499 (([false] : List Bool))).bind fun bt505 => (some (bt505.1, bt505.2))) = some (r1, r2) := by first | (rw [hy499]; with_reducible exact H) | (have H2_ := (Option.bind_some _ _).symm.trans H; rw [hy499]; with_reducible exact H2_) | (have H2_ := (Option.bind_some _ _).symm.trans H; with_reducible exact H2_) | with_reducible exact H | (rw [hy499]; exact H) | exact H
                have Ny499 := Aside0.mk hy499
                clear hy499
                obtain ⟨y502, hy502⟩ : ∃ y_ : List Bool, y_ = (([false] : List Bool)) := ⟨_, rfl⟩
                replace H : ((spec_l1Done.f k2 y499 y502).bind fun bt505 => (some (bt505.1, bt505.2))) = some (r1, r2) := by first | (rw [hy502]; with_reducible exact H) | (have H2_ := (Option.bind_some _ _).symm.trans H; rw [hy502]; with_reducible exact H2_) | (have H2_ := (Option.bind_some _ _).symm.trans H; with_reducible exact H2_) | with_reducible exact H | (rw [hy502]; exact H) | exact H
                have Ny502 := Aside0.mk hy502
                clear hy502
                replace H := Option.bind_eq_some_iff.mp H
                obtain ⟨⟨t505, t506⟩, A220, H⟩ := H
                replace H : (some (t505, t506)) = some (r1, r2) := H
                have A22 := Aside0.mk A220
                clear A220
                simp only [Option.some.injEq, Prod.mk.injEq] at H
                obtain ⟨rfl, rfl⟩ := H
                have hcz23_0 : wr.cell? ⟨gb495, 0, none⟩ = some (.slice Ao7 t488.length co7) := (blk_cell BK495.out 0).trans rfl
                have hcz23_1 : wr.cell? ⟨gb495, 1, none⟩ = some (.slice Ao9 t491.length co9) := (blk_cell BK495.out 1).trans rfl
                have hfz23_0 := blk_frozen BK495.out 0
                have hfz23_1 := blk_frozen BK495.out 1
                go_wp2_with (first | ((with_reducible refine gate_dst (N := 45) rfl ?_); refine Kd.R_lit Kd.bool _ 4 ?hg (N := 45) ?hd (xs := ([x8_2] : List Bool)) (inner := [.bool x8_2]) (ok := fun _ => True) (okp := fun _ => True) ?hr ?hp (fun _ hk => hk) trivial (Below.refl _ _) (Nat.le_refl _) (by simp) ?_; (case hd => rfl); (case hg => rfl); (case hr => first | (go_simp; done) | (go_simp; rfl)); (case hp => exact (Reps.one (show Kd.M Kd.bool _ _ _ x8_2 [.bool x8_2] from rfl) (Reps.none _ _))); intro v500 w24 ho25 hb hg_ hnew_; clear hg_ hnew_; (first | rw [← Ny499.out] at ho25 | (simp only [Int.reduceToNat] at ho25; rw [← Ny499.out] at ho25)); have n0_ := Aside0.mk (Kd.R_elder' (by (with_reducible repeat (first | apply Kd.R_alloc | apply Kd.R_drewN | apply Kd.R_drew)); exact HO_496000.out) (Kd.R_base ho25) hb); have n1_ := Aside0.mk (Kd.R_elder' (by (with_reducible repeat (first | apply Kd.R_alloc | apply Kd.R_drewN | apply Kd.R_drew)); exact HO_496001.out) (Kd.R_base ho25) hb); have n2_ := Aside0.mk (Kd.R_lower (Kd.R_new' (Kd.R_new' ho25 (Kd.R_lt (by (with_reducible repeat (first | apply Kd.R_alloc | apply Kd.R_drewN | apply Kd.R_drew)); exact HO_496000.out))) (Kd.R_lt (by (with_reducible repeat (first | apply Kd.R_alloc | apply Kd.R_drewN | apply Kd.R_drew)); exact HO_496001.out))) (below_size (by repeat (first | (with_reducible first | exact HB.out | apply below_alloc | apply pw_below_drewN | apply below_drew1 | refine below_set ?_ GE495.out) | exact HB.out)))); have n3_ := Aside0.mk (blk_below (g := gb495) (o := .cells #[.slice Ao7 t488.length co7, .slice Ao9 t491.length co9] 55 (0, 0)) (by (with_reducible repeat (first | refine blk_drewN ?_ _ | refine blk_drew ?_ | refine blk_alloc ?_ _)); exact BK495.out) hb); have n4_ := Aside0.mk (below_step (by repeat (first | (with_reducible first | exact HB.out | apply below_alloc | apply pw_below_drewN | apply below_drew1 | refine below_set ?_ GE495.out) | exact HB.out)) hb); clear HO_496000; clear HO_496001; clear BK495; clear HB; have HO_496000 := n0_; have HO_496001 := n1_; have HO501 := n2_; have BK495 := n3_; have HB := n4_; clear n0_ n1_ n2_ n3_ n4_; clear hb ho25) | ((with_reducible refine gate_dst (N := 46) rfl ?_); refine Kd.R_lit Kd.bool _ 4 ?hg (N := 46) ?hd (xs := ([false] : List Bool)) (inner := [.bool false]) (ok := fun _ => True) (okp := fun _ => True) ?hr ?hp (fun _ hk => hk) trivial (Below.refl _ _) (Nat.le_refl _) (by simp) ?_; (case hd => rfl); (case hg => rfl); (case hr => first | (go_simp; done) | (go_simp; rfl)); (case hp => exact (Reps.one (show Kd.M Kd.bool _ _ _ false [.bool false] from rfl) (Reps.none _ _))); intro v503 w26 ho27 hb hg_ hnew_; clear hg_ hnew_; (first | rw [← Ny502.out] at ho27 | (simp only [Int.reduceToNat] at ho27; rw [← Ny502.out] at ho27)); have n0_ := Aside0.mk (Kd.R_elder' (by (with_reducible repeat (first | apply Kd.R_alloc | apply Kd.R_drewN | apply Kd.R_drew)); exact HO_496000.out) (Kd.R_base ho27) hb); have n1_ := Aside0.mk (Kd.R_elder' (by (with_reducible repeat (first | apply Kd.R_alloc | apply Kd.R_drewN | apply Kd.R_drew)); exact HO_496001.out) (Kd.R_base ho27) hb); have n2_ := Aside0.mk (Kd.R_elder' (by (with_reducible repeat (first | apply Kd.R_alloc | apply Kd.R_drewN | apply Kd.R_drew)); exact HO501.out) (Kd.R_base ho27) hb); have n3_ := Aside0.mk (Kd.R_lower (Kd.R_new' (Kd.R_new' (Kd.R_new' ho27 (Kd.R_lt (by (with_reducible repeat (first | apply Kd.R_alloc | apply Kd.R_drewN | apply Kd.R_drew)); exact HO_496000.out))) (Kd.R_lt (by (with_reducible repeat (first | apply Kd.R_alloc | apply Kd.R_drewN | apply Kd.R_drew)); exact HO_496001.out))) (Kd.R_lt (by (with_reducible repeat (first | apply Kd.R_alloc | apply Kd.R_drewN | apply Kd.R_drew)); exact HO501.out))) (below_size (by repeat (first | (with_reducible first | exact HB.out | apply below_alloc | apply pw_below_drewN | apply below_drew1 | refine below_set ?_ GE495.out) | exact HB.out)))); have n4_ := Aside0.mk (blk_below (g := gb495) (o := .cells #[.slice Ao7 t488.length co7, .slice Ao9 t491.length co9] 55 (0, 0)) (by (with_reducible repeat (first | refine blk_drewN ?_ _ | refine blk_drew ?_ | refine blk_alloc ?_ _)); exact BK495.out) hb); have n5_ := Aside0.mk (below_step (by repeat (first | (with_reducible first | exact HB.out | apply below_alloc | apply pw_below_drewN | apply below_drew1 | refine below_set ?_ GE495.out) | exact HB.out)) hb); clear HO_496000; clear HO_496001; clear HO501; clear BK495; clear HB; have HO_496000 := n0_; have HO_496001 := n1_; have HO501 := n2_; have HO504 := n3_; have BK495 := n4_; have HB := n5_; clear n0_ n1_ n2_ n3_ n4_ n5_; clear hb ho27; obtain ⟨Ao28, co28, eo28⟩ := Kd.R_slice HO504.out; subst eo28; obtain ⟨Ao29, co29, eo29⟩ := Kd.R_slice HO501.out; subst eo29) | ((with_reducible refine gate_callee (f := 48) rfl ?_); refine goesL_ (some 48) rfl rfl Try.func48 (by kernel_rfl) rfl #[.agg #[.slice Ao29 y499.length co29, .slice Ao28 y502.length co28]] rfl (by (try simp only [List.map_toArray, List.map_cons, List.map_nil]); first | done | rfl | (simp only [List.length_drop, List.length_take]; rfl)) ?_; (with_reducible refine (spec_l1Done.calls k2 _ _ y499 _ _ y502 t505 t506 _ ?side1 ?side2 ?side3 ?side4 A22.out).mono ?_); (case side1 => repeat (first | exact (Kd.R_reads' HO501.out).2.2 | (with_reducible refine Kd.C_alloc ?_ _) | (with_reducible refine Kd.C_drewN ?_ _) | (with_reducible refine Kd.C_drew ?_))); (case side2 => exact (Kd.R_reads' HO501.out).2.1); (case side3 => repeat (first | exact (Kd.R_reads' HO504.out).2.2 | (with_reducible refine Kd.C_alloc ?_ _) | (with_reducible refine Kd.C_drewN ?_ _) | (with_reducible refine Kd.C_drew ?_))); (case side4 => exact (Kd.R_reads' HO504.out).2.1); rintro e w30 ⟨rfl, hb⟩; refine ⟨_, rfl, ?_⟩; have n0_ := Aside0.mk (Kd.R_below (by (with_reducible repeat (first | apply Kd.R_alloc | apply Kd.R_drewN | apply Kd.R_drew)); exact HO_496000.out) hb); have n1_ := Aside0.mk (Kd.R_below (by (with_reducible repeat (first | apply Kd.R_alloc | apply Kd.R_drewN | apply Kd.R_drew)); exact HO_496001.out) hb); have n2_ := Aside0.mk (Kd.R_below (by (with_reducible repeat (first | apply Kd.R_alloc | apply Kd.R_drewN | apply Kd.R_drew)); exact HO501.out) hb); have n3_ := Aside0.mk (Kd.R_below (by (with_reducible repeat (first | apply Kd.R_alloc | apply Kd.R_drewN | apply Kd.R_drew)); exact HO504.out) hb); have n4_ := Aside0.mk (blk_below (g := gb495) (o := .cells #[.slice Ao7 t488.length co7, .slice Ao9 t491.length co9] 55 (0, 0)) (by (with_reducible repeat (first | refine blk_drewN ?_ _ | refine blk_drew ?_ | refine blk_alloc ?_ _)); exact BK495.out) hb); have n5_ := Aside0.mk (below_step (by repeat (first | (with_reducible first | exact HB.out | apply below_alloc | apply pw_below_drewN | apply below_drew1 | refine below_set ?_ GE495.out) | exact HB.out)) hb); clear HO_496000; clear HO_496001; clear HO501; clear HO504; clear BK495; clear HB; have HO_496000 := n0_; have HO_496001 := n1_; have HO501 := n2_; have HO504 := n3_; have BK495 := n4_; have HB := n5_; clear n0_ n1_ n2_ n3_ n4_ n5_; (try clear hb); (try clear hb2); (try clear hk); (try clear hi)))
                go_ret2
                exact ⟨by first | rfl | (simp [errW_none, errW_some] <;> rfl) | (simp [*, errW_none, errW_some] <;> rfl) | (simp [errW_none, errW_some]; exact ⟨rfl, rfl⟩), by repeat (first | (with_reducible first | exact HB.out | apply below_alloc | apply pw_below_drewN | apply below_drew1 | refine below_set ?_ GE495.out) | exact HB.out)⟩
        · rw [if_neg c13] at H
          have c13b0 : (a1 == 0) = false := beq_eq_false_iff_ne.mpr c13
          have c13b1 : (a1 != 0) = true := bne_iff_ne.mpr c13
          obtain ⟨y507, hy507⟩ : ∃ y_ : List Bool, y_ = (([] : List Bool)) := ⟨_, rfl⟩
          replace H : (spec_MakeTimes.l1 kj3 a1 y507 0 t488 t491) = some (r1, r2) := by first | (rw [hy507]; with_reducible exact H) | (have H2_ := (Option.bind_some _ _).symm.trans H; rw [hy507]; with_reducible exact H2_) | (have H2_ := (Option.bind_some _ _).symm.trans H; with_reducible exact H2_) | with_reducible exact H | (rw [hy507]; exact H) | exact H
          have Ny507 := Aside0.mk hy507
          clear hy507
          have H' := Aside0.mk H
          clear H
          go_wp2_with (first | ((with_reducible refine gate_dst (N := 51) rfl ?_); refine Kd.R_lit Kd.bool _ 4 ?hg (N := 51) ?hd (xs := ([] : List Bool)) (inner := []) (ok := fun _ => True) (okp := fun _ => True) ?hr ?hp (fun _ hk => hk) trivial (Below.refl _ _) (Nat.le_refl _) (by simp) ?_; (case hd => rfl); (case hg => rfl); (case hr => first | (go_simp; done) | (go_simp; rfl)); (case hp => exact (Reps.none _ _)); intro v508 w31 ho32 hb hg_ hnew_; clear hg_ hnew_; (first | rw [← Ny507.out] at ho32 | (simp only [Int.reduceToNat] at ho32; rw [← Ny507.out] at ho32)); have n0_ := Aside0.mk (Kd.R_elder' (by (with_reducible repeat (first | apply Kd.R_alloc | apply Kd.R_drewN | apply Kd.R_drew)); exact HO_496000.out) (Kd.R_base ho32) hb); have n1_ := Aside0.mk (Kd.R_elder' (by (with_reducible repeat (first | apply Kd.R_alloc | apply Kd.R_drewN | apply Kd.R_drew)); exact HO_496001.out) (Kd.R_base ho32) hb); have n2_ := Aside0.mk (Kd.R_lower (Kd.R_new' (Kd.R_new' ho32 (Kd.R_lt (by (with_reducible repeat (first | apply Kd.R_alloc | apply Kd.R_drewN | apply Kd.R_drew)); exact HO_496000.out))) (Kd.R_lt (by (with_reducible repeat (first | apply Kd.R_alloc | apply Kd.R_drewN | apply Kd.R_drew)); exact HO_496001.out))) (below_size (by repeat (first | (with_reducible first | exact HB.out | apply below_alloc | apply pw_below_drewN | apply below_drew1 | refine below_set ?_ GE495.out) | exact HB.out)))); have n3_ := Aside0.mk (blk_below (g := gb495) (o := .cells #[.slice Ao7 t488.length co7, .slice Ao9 t491.length co9] 55 (0, 0)) (by (with_reducible repeat (first | refine blk_drewN ?_ _ | refine blk_drew ?_ | refine blk_alloc ?_ _)); exact BK495.out) hb); have n4_ := Aside0.mk (below_step (by repeat (first | (with_reducible first | exact HB.out | apply below_alloc | apply pw_below_drewN | apply below_drew1 | refine below_set ?_ GE495.out) | exact HB.out)) hb); clear HO_496000; clear HO_496001; clear BK495; clear HB; have HO_496000 := n0_; have HO_496001 := n1_; have HO509 := n2_; have BK495 := n3_; have HB := n4_; clear n0_ n1_ n2_ n3_ n4_; clear hb ho32))
          go_loopg [10, 11] kj3 (fun kq v10 v11 w' => ∃ (x10_2 : List Bool) (x11_2 : Int), v11 = .int .i64 x11_2 ∧ Aside0 (spec_MakeTimes.l1 kq a1 x10_2 x11_2 t488 t491 = some (r1, r2)) ∧ Aside0 (kq ≤ kj3) ∧ Aside0 (Kd.R Kd.bool 4 w' w.heap.size (fun k_ => some k_ ≠ ((.slice Ao7 t488.length co7) : Value).ownBlock ∧ some k_ ≠ ((.slice Ao9 t491.length co9) : Value).ownBlock) v10 x10_2) ∧ Aside0 (Kd.R Kd.bool 4 w' w.heap.size (fun k_ => some k_ ≠ (v10 : Value).ownBlock ∧ some k_ ≠ ((.slice Ao9 t491.length co9) : Value).ownBlock) (.slice Ao7 t488.length co7) t488) ∧ Aside0 (Kd.R Kd.bool 4 w' w.heap.size (fun k_ => some k_ ≠ (v10 : Value).ownBlock ∧ some k_ ≠ ((.slice Ao7 t488.length co7) : Value).ownBlock) (.slice Ao9 t491.length co9) t491) ∧ Aside0 (w'.heap[gb495]? = some (.cells #[(.slice Ao7 t488.length co7), (.slice Ao9 t491.length co9)] 55 (0, 0))) ∧ Aside0 (Below w.heap.size w w'))
          case atStart => exact ⟨(y507), (0), (by first | rfl | (simp; done) | (simp [*]; done) | (simp [Int.tmod_eq_emod_of_nonneg]; done)), H', ⟨Nat.le_refl _⟩, ⟨by (with_reducible repeat (first | apply Kd.R_alloc | apply Kd.R_drewN | apply Kd.R_drew)); exact Kd.R_mono HO509.out (fun _ hk => ⟨hk.1.2, hk.2⟩)⟩, ⟨by (with_reducible repeat (first | apply Kd.R_alloc | apply Kd.R_drewN | apply Kd.R_drew)); exact Kd.R_mono HO_496000.out (fun _ hk => ⟨hk.2, hk.1⟩)⟩, ⟨by (with_reducible repeat (first | apply Kd.R_alloc | apply Kd.R_drewN | apply Kd.R_drew)); exact Kd.R_mono HO_496001.out (fun _ hk => ⟨hk.2, hk.1⟩)⟩, ⟨by (with_reducible repeat (first | refine blk_drewN ?_ _ | refine blk_drew ?_ | refine blk_alloc ?_ _)); exact BK495.out⟩, ⟨by repeat (first | (with_reducible first | exact HB.out | apply below_alloc | apply pw_below_drewN | apply below_drew1 | refine below_set ?_ GE495.out) | exact HB.out)⟩⟩
          case round =>
            clear H'
            try clear c1
            try clear c2
            try clear p2
            try clear c4
            try clear p4
            try clear q4
            try clear hx4
            try clear p6
            try clear c10
            try clear c12
            try clear c13
            try clear c13b0
            try clear c13b1
            try clear c17
            try clear c17b0
            try clear c18
            try clear c20
            try clear c20b0
            try clear c23
            try clear hcz15_0
            try clear hcz15_1
            try clear hcz19_0
            try clear hcz19_1
            try clear hcz21_0
            try clear hcz21_1
            try clear hcz23_0
            try clear hcz23_1
            try clear hcz8_0
            try clear hcz8_1
            try clear hfz15_0
            try clear hfz15_1
            try clear hfz19_0
            try clear hfz19_1
            try clear hfz21_0
            try clear hfz21_1
            try clear hfz23_0
            try clear hfz23_1
            try clear hfz8_0
            try clear hfz8_1
            try clear hx498_0
            try clear p2
            try clear p498
            try clear q498
            obtain ⟨x10_2, x11_2, rfl, HA, HK2, HO_10, HO_496000, HO_496001, BK495, HB⟩ := hrel
            cases gk with
            | zero => exact absurd HA.out (by simp [spec_MakeTimes.l1])
            | succ k2 =>
              have H := HA.out
              clear HA
              simp only [spec_MakeTimes.l1] at H
              by_cases c33 : x11_2 < (wrap64 (a1 * (wrap64 ((t488.length : Int) + (t491.length : Int)))))
              · rw [if_pos c33] at H
                have c33b0 : decide (x11_2 < (wrap64 (a1 * (wrap64 ((t488.length : Int) + (t491.length : Int)))))) = true := decide_eq_true c33
                clear c33
                by_cases c34 : a1 = 0
                · rw [if_pos c34] at H
                  exact absurd H (by simp)
                · rw [if_neg c34] at H
                  have c34b0 : (a1 == 0) = false := beq_eq_false_iff_ne.mpr c34
                  have c34b1 : (a1 != 0) = true := bne_iff_ne.mpr c34
                  by_cases c35 : (Int.tmod x11_2 a1) = 0
                  · rw [if_pos c35] at H
                    have c35b0 : ((Int.tmod x11_2 a1) == 0) = true := beq_iff_eq.mpr c35
                    have c35b1 : ((Int.tmod x11_2 a1) != 0) = false := bne_eq_false_iff_eq.mpr c35
                    clear c35
                    replace H := Option.bind_eq_some_iff.mp H
                    obtain ⟨t510, A360, H⟩ := H
                    replace H : (if x10_2.length < 140737488355328 then (spec_MakeTimes.l1 k2 a1 (x10_2 ++ [t510]) (wrap64 (x11_2 + 1)) t488 t491) else (none)) = some (r1, r2) := H
                    have A36 := Aside0.mk A360
                    clear A360
                    by_cases c37 : x10_2.length < 140737488355328
                    · rw [if_pos c37] at H
                      have LMc37 := Aside0.mk c37
                      clear c37
                      obtain ⟨y511, hy511⟩ : ∃ y_ : List Bool, y_ = (x10_2 ++ [t510]) := ⟨_, rfl⟩
                      replace H : (spec_MakeTimes.l1 k2 a1 y511 (wrap64 (x11_2 + 1)) t488 t491) = some (r1, r2) := by first | (rw [hy511]; with_reducible exact H) | (have H2_ := (Option.bind_some _ _).symm.trans H; rw [hy511]; with_reducible exact H2_) | (have H2_ := (Option.bind_some _ _).symm.trans H; with_reducible exact H2_) | with_reducible exact H | (rw [hy511]; exact H) | exact H
                      have Ny511 := Aside0.mk hy511
                      clear hy511
                      have H' := Aside0.mk H
                      clear H
                      have hcz38_0 : wr.cell? ⟨gb495, 0, none⟩ = some (.slice Ao7 t488.length co7) := (blk_cell BK495.out 0).trans rfl
                      have hcz38_1 : wr.cell? ⟨gb495, 1, none⟩ = some (.slice Ao9 t491.length co9) := (blk_cell BK495.out 1).trans rfl
                      have hfz38_0 := blk_frozen BK495.out 0
                      have hfz38_1 := blk_frozen BK495.out 1
                      try go_wp2
                      have n0_ := Aside0.mk (Kd.R_drew HO_10.out)
                      have n1_ := Aside0.mk (Kd.R_drew HO_496000.out)
                      have n2_ := Aside0.mk (Kd.R_drew HO_496001.out)
                      have n3_ := Aside0.mk (blk_drew BK495.out)
                      have n4_ := Aside0.mk (below_drew1 HB.out)
                      clear HO_10
                      clear HO_496000
                      clear HO_496001
                      clear BK495
                      clear HB
                      have HO_10 := n0_
                      have HO_496000 := n1_
                      have HO_496001 := n2_
                      have BK495 := n3_
                      have HB := n4_
                      clear n0_ n1_ n2_ n3_ n4_
                      refine start_ (n := 15) (S := fun w' => w'.cell? ⟨gb495, 0, none⟩ = some (.slice Ao7 t488.length co7) ∧ w'.cell? ⟨gb495, 1, none⟩ = some (.slice Ao9 t491.length co9)) (ds := []) #[false, false, false, false, false, false, false, false, false, false, false, false, false, false, false] (by kernel_rfl) rfl rfl ⟨(blk_cell BK495.out 0).trans rfl, (blk_cell BK495.out 1).trans rfl⟩ (fun hHeld => ?_); refine with_tabW spec_MakeTimes.tab15 spec_MakeTimes.bits15 (fun HT_ HW_ => ?_)
                      generalize wr.drew = w39 at HO_10 HO_496000 HO_496001 BK495 HB hHeld ⊢
                      refine pure_ (i := 0) (N := some 65) (v := ?_) (a' := ?_) #[true, false, false, false, false, false, false, false, false, false, false, false, false, false, false] rfl rfl (any_of HT_.out (by kernel_rfl)) (fun _ _ _ h => h) (Or.inl ⟨by rfl, ?_⟩) ?_ ?_
                      rotate_left
                      · intro w'
                        go_simp
                        with_reducible rfl
                      rotate_left
                      · simp only [Act.put, List.setIfInBounds_toArray, List.set_cons_zero, List.set_cons_succ, i64_w, i32_w]
                        rfl
                      refine pure_ (i := 1) (N := some 66) (v := ?_) (a' := ?_) #[true, true, false, false, false, false, false, false, false, false, false, false, false, false, false] rfl rfl (any_of HT_.out (by kernel_rfl)) (fun _ _ _ h => h) (Or.inl ⟨by rfl, ?_⟩) ?_ ?_
                      rotate_left
                      · intro w'
                        go_simp
                        with_reducible rfl
                      rotate_left
                      · simp only [Act.put, List.setIfInBounds_toArray, List.set_cons_zero, List.set_cons_succ, i64_w, i32_w]
                        rfl
                      refine pure_ (i := 2) (N := some 67) (v := ?_) (a' := ?_) #[true, true, true, false, false, false, false, false, false, false, false, false, false, false, false] rfl rfl (any_of HT_.out (by kernel_rfl)) (fun _ _ _ h => h) (Or.inl ⟨by rfl, ?_⟩) ?_ ?_
                      rotate_left
                      · intro w'
                        go_simp
                        with_reducible rfl
                      rotate_left
                      · simp only [Act.put, List.setIfInBounds_toArray, List.set_cons_zero, List.set_cons_succ, i64_w, i32_w]
                        rfl
                      refine pure_ (i := 3) (N := some 68) (v := ?_) (a' := ?_) #[true, true, true, true, false, false, false, false, false, false, false, false, false, false, false] rfl rfl (any_of HT_.out (by kernel_rfl)) (fun _ _ _ h => h) (Or.inl ⟨by rfl, ?_⟩) ?_ ?_
                      rotate_left
                      · intro w'
                        go_simp
                        with_reducible rfl
                      rotate_left
                      · simp only [Act.put, List.setIfInBounds_toArray, List.set_cons_zero, List.set_cons_succ, i64_w, i32_w]
                        rfl
                      refine pure_ (i := 4) (N := some 69) (v := ?_) (a' := ?_) #[true, true, true, true, true, false, false, false, false, false, false, false, false, false, false] rfl rfl (any_of HT_.out (by kernel_rfl)) (fun _ _ _ h => h) (Or.inl ⟨by rfl, ?_⟩) ?_ ?_
                      rotate_left
                      · intro w'
                        go_simp
                        with_reducible rfl
                      rotate_left
                      · simp only [Act.put, List.setIfInBounds_toArray, List.set_cons_zero, List.set_cons_succ, i64_w, i32_w]
                        rfl
                      refine pure_ (i := 5) (N := some 70) (v := ?_) (a' := ?_) #[true, true, true, true, true, true, false, false, false, false, false, false, false, false, false] rfl rfl (any_of HT_.out (by kernel_rfl)) (fun _ _ _ h => h) (Or.inl ⟨by rfl, ?_⟩) ?_ ?_
                      rotate_left
                      · intro w'
                        go_simp
                        with_reducible rfl
                      rotate_left
                      · simp only [Act.put, List.setIfInBounds_toArray, List.set_cons_zero, List.set_cons_succ, i64_w, i32_w]
                        rfl
                      refine pure_ (i := 7) (N := some 72) (v := ?_) (a' := ?_) #[true, true, true, true, true, true, false, true, false, false, false, false, false, false, false] rfl rfl (any_of HT_.out (by kernel_rfl)) (fun _ _ _ h => h) (Or.inl ⟨by rfl, ?_⟩) ?_ ?_
                      rotate_left
                      · intro w'
                        go_simp
                        with_reducible rfl
                      rotate_left
                      · simp only [Act.put, List.setIfInBounds_toArray, List.set_cons_zero, List.set_cons_succ, i64_w, i32_w]
                        rfl
                      refine pure_ (i := 8) (N := some 73) (v := ?_) (a' := ?_) #[true, true, true, true, true, true, false, true, true, false, false, false, false, false, false] rfl rfl (any_of HT_.out (by kernel_rfl)) (fun _ _ _ h => h) (Or.inl ⟨by rfl, ?_⟩) ?_ ?_
                      rotate_left
                      · intro w'
                        go_simp
                        with_reducible rfl
                      rotate_left
                      · simp only [Act.put, List.setIfInBounds_toArray, List.set_cons_zero, List.set_cons_succ, i64_w, i32_w]
                        rfl
                      refine pure_ (i := 9) (N := some 74) (v := ?_) (a' := ?_) #[true, true, true, true, true, true, false, true, true, true, false, false, false, false, false] rfl rfl (any_of HT_.out (by kernel_rfl)) (fun _ _ _ h => h) (Or.inl ⟨by rfl, ?_⟩) ?_ ?_
                      rotate_left
                      · intro w'
                        go_simp
                        with_reducible rfl
                      rotate_left
                      · simp only [Act.put, List.setIfInBounds_toArray, List.set_cons_zero, List.set_cons_succ, i64_w, i32_w]
                        rfl
                      refine take_ (i := 6) (N := some 71) (v := ?_) (a' := ?_) #[true, true, true, true, true, true, true, true, true, true, false, false, false, false, false] rfl rfl (take_ofW HT_.out HW_.out (by kernel_rfl)) (fun _ _ _ h => h) (Or.inl ⟨by rfl, ?_⟩) hHeld ?_ ?_
                      rotate_left
                      · rintro w' ⟨s0, s1⟩
                        go_simp
                        with_reducible rfl
                      rotate_left
                      · simp only [Act.put, List.setIfInBounds_toArray, List.set_cons_zero, List.set_cons_succ, i64_w, i32_w]
                        rfl
                      refine one_ (i := 10) (N := some 75) #[true, true, true, true, true, true, true, true, true, true, true, false, false, false, false] rfl rfl (one_of HT_.out (by kernel_rfl)) (by decide) (fun K hK => ?_)
                      refine goes_ Try.func49 (by kernel_rfl) rfl #[.agg #[.slice Ao7 t488.length co7, .slice Ao9 t491.length co9], .int .i64 (wrap64 (Int.tdiv x11_2 a1))] (by rfl) rfl rfl (by (try simp only [List.map_toArray, List.map_cons, List.map_nil]); first | done | rfl | (simp only [List.length_drop, List.length_take]; rfl)) ?_
                      with_reducible refine (spec_l1Has.calls _ _ t488 _ _ t491 (wrap64 (Int.tdiv x11_2 a1)) t510 _ ?side1 ?side2 ?side3 ?side4 A36.out).mono ?_
                      (case side1 => repeat (first | exact (Kd.R_reads' HO_496000.out).2.2 | (with_reducible refine Kd.C_alloc ?_ _) | (with_reducible refine Kd.C_drewN ?_ _) | (with_reducible refine Kd.C_drew ?_)))
                      (case side2 => exact (Kd.R_reads' HO_496000.out).2.1)
                      (case side3 => repeat (first | exact (Kd.R_reads' HO_496001.out).2.2 | (with_reducible refine Kd.C_alloc ?_ _) | (with_reducible refine Kd.C_drewN ?_ _) | (with_reducible refine Kd.C_drew ?_)))
                      (case side4 => exact (Kd.R_reads' HO_496001.out).2.1)
                      rintro e w40 ⟨rfl, hb⟩
                      refine ⟨_, rfl, ?_⟩
                      have n0_ := Aside0.mk (Kd.R_below (by (with_reducible repeat (first | apply Kd.R_alloc | apply Kd.R_drewN | apply Kd.R_drew)); exact HO_10.out) hb)
                      have n1_ := Aside0.mk (Kd.R_below (by (with_reducible repeat (first | apply Kd.R_alloc | apply Kd.R_drewN | apply Kd.R_drew)); exact HO_496000.out) hb)
                      have n2_ := Aside0.mk (Kd.R_below (by (with_reducible repeat (first | apply Kd.R_alloc | apply Kd.R_drewN | apply Kd.R_drew)); exact HO_496001.out) hb)
                      have n3_ := Aside0.mk (blk_below (g := gb495) (o := .cells #[.slice Ao7 t488.length co7, .slice Ao9 t491.length co9] 55 (0, 0)) (by (with_reducible repeat (first | refine blk_drewN ?_ _ | refine blk_drew ?_ | refine blk_alloc ?_ _)); exact BK495.out) hb)
                      have n4_ := Aside0.mk (below_step (by repeat (first | (with_reducible first | exact HB.out | apply below_alloc | apply pw_below_drewN | apply below_drew1 | refine below_set ?_ GE495.out) | exact HB.out)) hb)
                      clear HO_10
                      clear HO_496000
                      clear HO_496001
                      clear BK495
                      clear HB
                      have HO_10 := n0_
                      have HO_496000 := n1_
                      have HO_496001 := n2_
                      have BK495 := n3_
                      have HB := n4_
                      clear n0_ n1_ n2_ n3_ n4_
                      (try clear hb)
                      (try clear hb2)
                      (try clear hk)
                      (try clear hi)
                      refine hK.out _ _ ⟨(blk_cell BK495.out 0).trans rfl, (blk_cell BK495.out 1).trans rfl⟩ (fun hHeld => ?_)
                      clear hK K
                      refine norm_ (a' := ?_) ?_ ?_
                      rotate_left
                      · show Act.put _ (some 75) _ = _
                        simp only [Act.put, List.setIfInBounds_toArray, List.set_cons_zero, List.set_cons_succ, i64_w, i32_w]
                        rfl
                      refine pure_ (i := 11) (N := some 76) (v := ?_) (a' := ?_) #[true, true, true, true, true, true, true, true, true, true, true, true, false, false, false] rfl rfl (any_of HT_.out (by kernel_rfl)) (fun _ _ _ h => h) (Or.inl ⟨by rfl, ?_⟩) ?_ ?_
                      rotate_left
                      · intro w'
                        go_simp
                        with_reducible rfl
                      rotate_left
                      · simp only [Act.put, List.setIfInBounds_toArray, List.set_cons_zero, List.set_cons_succ, i64_w, i32_w]
                        rfl
                      refine one_ (i := 12) (N := some 77) #[true, true, true, true, true, true, true, true, true, true, true, true, true, false, false] rfl rfl (one_of HT_.out (by kernel_rfl)) (by decide) (fun K hK => ?_)
                      refine value_ (w1 := ?_) (v := ?_) (by rfl) rfl ?_ ?_
                      rotate_left 2
                      · go_simp
                        constructor
                        · rfl
                        · rfl
                      refine hK.out _ _ ⟨(blk_cell (blk_alloc BK495.out _) 0).trans rfl, (blk_cell (blk_alloc BK495.out _) 1).trans rfl⟩ (fun hHeld => ?_)
                      clear hK K
                      refine norm_ (a' := ?_) ?_ ?_
                      rotate_left
                      · show Act.put _ (some 77) _ = _
                        simp only [Act.put, List.setIfInBounds_toArray, List.set_cons_zero, List.set_cons_succ, i64_w, i32_w]
                        rfl
                      refine one_ (i := 13) (N := some 78) #[true, true, true, true, true, true, true, true, true, true, true, true, true, true, false] rfl rfl (one_of HT_.out (by kernel_rfl)) (by decide) (fun K hK => ?_)
                      refine Kd.R_append_step Kd.bool (w0 := w) w.heap.size (by rfl) (.tmp 65) (.tmp 77) 40 4 (.bool false) 1 rfl Try.underlying40 info4 rfl (by decide) (by omega) u10 x10_2 t510 [.bool t510] (fun k_ => some k_ ≠ (.slice Ao7 t488.length co7 : Value).ownBlock ∧ some k_ ≠ (.slice Ao9 t491.length co9 : Value).ownBlock) (fun _ => False) rfl rfl ?aP (fun _ hk => hk.elim) ?aF ?aO ?aB ?aS ?aL ?_
                      (case aP => exact rfl)
                      (case aB => exact (by repeat (first | (with_reducible first | exact HB.out | apply below_alloc | apply pw_below_drewN | apply below_drew1 | refine below_set ?_ GE495.out) | exact HB.out)))
                      (case aF => exact (fun k_ hk => ⟨Kd.fresh' (Kd.R_lt (by (with_reducible repeat (first | apply Kd.R_alloc | apply Kd.R_drewN | apply Kd.R_drew)); exact HO_496000.out)) k_ hk, Kd.fresh' (Kd.R_lt (by (with_reducible repeat (first | apply Kd.R_alloc | apply Kd.R_drewN | apply Kd.R_drew)); exact HO_496001.out)) k_ hk⟩))
                      (case aO => exact (by (with_reducible repeat (first | apply Kd.R_alloc | apply Kd.R_drewN | apply Kd.R_drew)); exact HO_10.out))
                      (case aS => exact (below_size (by repeat (first | (with_reducible first | exact HB.out | apply below_alloc | apply pw_below_drewN | apply below_drew1 | refine below_set ?_ GE495.out) | exact HB.out))))
                      (case aL => have := LMc37.out; omega)
                      intro v512 w41 ho hb hg hat
                      rw [← Ny511.out] at ho
                      have n0_ := Aside0.mk (Kd.R_after (ok := (fun k_ => some k_ ≠ (.slice Ao9 t491.length co9 : Value).ownBlock)) (by (with_reducible repeat (first | apply Kd.R_alloc | apply Kd.R_drewN | apply Kd.R_drew)); exact Kd.R_mono HO_496000.out (fun _ hk => ⟨hk.2, hk.1⟩)) hg hat)
                      have n1_ := Aside0.mk (Kd.R_after (ok := (fun k_ => some k_ ≠ (.slice Ao7 t488.length co7 : Value).ownBlock)) (by (with_reducible repeat (first | apply Kd.R_alloc | apply Kd.R_drewN | apply Kd.R_drew)); exact Kd.R_mono HO_496001.out (fun _ hk => ⟨hk.2, hk.1⟩)) hg hat)
                      have n2_ := Aside0.mk (blk_grown (g := gb495) (o := .cells #[.slice Ao7 t488.length co7, .slice Ao9 t491.length co9] 55 (0, 0)) (by (with_reducible repeat (first | refine blk_drewN ?_ _ | refine blk_drew ?_ | refine blk_alloc ?_ _)); exact BK495.out) hg (Kd.R_ne HO_10.out BK495.out (by decide)))
                      have n3_ := Aside0.mk (hb)
                      have n4_ := Aside0.mk (ho)
                      clear HO_496000
                      clear HO_496001
                      clear BK495
                      clear HB
                      clear HO_10
                      have HO_496000 := n0_
                      have HO_496001 := n1_
                      have BK495 := n2_
                      have HB := n3_
                      have HO513 := n4_
                      clear n0_ n1_ n2_ n3_ n4_
                      clear ho hb hg hat
                      refine hK.out _ _ ⟨(blk_cell BK495.out 0).trans rfl, (blk_cell BK495.out 1).trans rfl⟩ (fun hHeld => ?_)
                      clear hK K
                      refine norm_ (a' := ?_) ?_ ?_
                      rotate_left
                      · show Act.put _ (some 78) _ = _
                        simp only [Act.put, List.setIfInBounds_toArray, List.set_cons_zero, List.set_cons_succ, i64_w, i32_w]
                        rfl
                      refine pure_ (i := 14) (N := some 10) (v := ?_) (a' := ?_) #[true, true, true, true, true, true, true, true, true, true, true, true, true, true, true] rfl rfl (any_of HT_.out (by kernel_rfl)) (fun _ _ _ h => h) (Or.inl ⟨by rfl, ?_⟩) ?_ ?_
                      rotate_left
                      · intro w'
                        go_simp
                        with_reducible rfl
                      rotate_left
                      · simp only [Act.put, List.setIfInBounds_toArray, List.set_cons_zero, List.set_cons_succ, i64_w, i32_w]
                        rfl
                      refine done_ (done_of HT_.out (by kernel_rfl)) ?_
                      try go_wp2
                      go_roundg k2
                      case measure => have := HJ3.out; have := HK2.out; omega
                      case rel => exact ⟨(y511), (wrap64 (x11_2 + 1)), (by first | rfl | (simp; done) | (simp [*]; done) | (simp [Int.tmod_eq_emod_of_nonneg]; done)), H', ⟨by have := HJ3.out; have := HK2.out; omega⟩, ⟨by (with_reducible repeat (first | apply Kd.R_alloc | apply Kd.R_drewN | apply Kd.R_drew)); exact HO513.out⟩, ⟨by (with_reducible repeat (first | apply Kd.R_alloc | apply Kd.R_drewN | apply Kd.R_drew)); exact Kd.R_mono HO_496000.out (fun _ hk => ⟨hk.2, hk.1⟩)⟩, ⟨by (with_reducible repeat (first | apply Kd.R_alloc | apply Kd.R_drewN | apply Kd.R_drew)); exact Kd.R_mono HO_496001.out (fun _ hk => ⟨hk.2, hk.1⟩)⟩, ⟨by (with_reducible repeat (first | refine blk_drewN ?_ _ | refine blk_drew ?_ | refine blk_alloc ?_ _)); exact BK495.out⟩, ⟨by repeat (first | (with_reducible first | exact HB.out | apply below_alloc | apply pw_below_drewN | apply below_drew1 | refine below_set ?_ GE495.out) | exact HB.out)⟩⟩
                    · rw [if_neg c37] at H
                      exact absurd H (by simp)
                  · rw [if_neg c35] at H
                    have c35b0 : ((Int.tmod x11_2 a1) == 0) = false := beq_eq_false_iff_ne.mpr c35
                    have c35b1 : ((Int.tmod x11_2 a1) != 0) = true := bne_iff_ne.mpr c35
                    by_cases c42 : x10_2.length < 140737488355328
                    · rw [if_pos c42] at H
                      have LMc42 := Aside0.mk c42
                      clear c42
                      obtain ⟨y514, hy514⟩ : ∃ y_ : List Bool, y_ = (x10_2 ++ [false]) := ⟨_, rfl⟩
                      replace H : (spec_MakeTimes.l1 k2 a1 y514 (wrap64 (x11_2 + 1)) t488 t491) = some (r1, r2) := by first | (rw [hy514]; with_reducible exact H) | (have H2_ := (Option.bind_some _ _).symm.trans H; rw [hy514]; with_reducible exact H2_) | (have H2_ := (Option.bind_some _ _).symm.trans H; with_reducible exact H2_) | with_reducible exact H | (rw [hy514]; exact H) | exact H
                      have Ny514 := Aside0.mk hy514
                      clear hy514
                      have H' := Aside0.mk H
                      clear H
                      have hcz43_0 : wr.cell? ⟨gb495, 0, none⟩ = some (.slice Ao7 t488.length co7) := (blk_cell BK495.out 0).trans rfl
                      have hcz43_1 : wr.cell? ⟨gb495, 1, none⟩ = some (.slice Ao9 t491.length co9) := (blk_cell BK495.out 1).trans rfl
                      have hfz43_0 := blk_frozen BK495.out 0
                      have hfz43_1 := blk_frozen BK495.out 1
                      try go_wp2
                      have n0_ := Aside0.mk (Kd.R_drew HO_10.out)
                      have n1_ := Aside0.mk (Kd.R_drew HO_496000.out)
                      have n2_ := Aside0.mk (Kd.R_drew HO_496001.out)
                      have n3_ := Aside0.mk (blk_drew BK495.out)
                      have n4_ := Aside0.mk (below_drew1 HB.out)
                      clear HO_10
                      clear HO_496000
                      clear HO_496001
                      clear BK495
                      clear HB
                      have HO_10 := n0_
                      have HO_496000 := n1_
                      have HO_496001 := n2_
                      have BK495 := n3_
                      have HB := n4_
                      clear n0_ n1_ n2_ n3_ n4_
                      refine start_ (n := 15) (S := fun w' => True) (ds := []) #[false, false, false, false, false, false, false, false, false, false, false, false, false, false, false] (by kernel_rfl) rfl rfl trivial (fun hHeld => ?_); refine with_tabW spec_MakeTimes.tab15 spec_MakeTimes.bits15 (fun HT_ HW_ => ?_)
                      generalize wr.drew = w44 at HO_10 HO_496000 HO_496001 BK495 HB hHeld ⊢
                      refine pure_ (i := 0) (N := some 65) (v := ?_) (a' := ?_) #[true, false, false, false, false, false, false, false, false, false, false, false, false, false, false] rfl rfl (any_of HT_.out (by kernel_rfl)) (fun _ _ _ h => h) (Or.inl ⟨by rfl, ?_⟩) ?_ ?_
                      rotate_left
                      · intro w'
                        go_simp
                        with_reducible rfl
                      rotate_left
                      · simp only [Act.put, List.setIfInBounds_toArray, List.set_cons_zero, List.set_cons_succ, i64_w, i32_w]
                        rfl
                      refine pure_ (i := 1) (N := some 66) (v := ?_) (a' := ?_) #[true, true, false, false, false, false, false, false, false, false, false, false, false, false, false] rfl rfl (any_of HT_.out (by kernel_rfl)) (fun _ _ _ h => h) (Or.inl ⟨by rfl, ?_⟩) ?_ ?_
                      rotate_left
                      · intro w'
                        go_simp
                        with_reducible rfl
                      rotate_left
                      · simp only [Act.put, List.setIfInBounds_toArray, List.set_cons_zero, List.set_cons_succ, i64_w, i32_w]
                        rfl
                      refine pure_ (i := 2) (N := some 67) (v := ?_) (a' := ?_) #[true, true, true, false, false, false, false, false, false, false, false, false, false, false, false] rfl rfl (any_of HT_.out (by kernel_rfl)) (fun _ _ _ h => h) (Or.inl ⟨by rfl, ?_⟩) ?_ ?_
                      rotate_left
                      · intro w'
                        go_simp
                        with_reducible rfl
                      rotate_left
                      · simp only [Act.put, List.setIfInBounds_toArray, List.set_cons_zero, List.set_cons_succ, i64_w, i32_w]
                        rfl
                      refine pure_ (i := 3) (N := some 68) (v := ?_) (a' := ?_) #[true, true, true, true, false, false, false, false, false, false, false, false, false, false, false] rfl rfl (any_of HT_.out (by kernel_rfl)) (fun _ _ _ h => h) (Or.inl ⟨by rfl, ?_⟩) ?_ ?_
                      rotate_left
                      · intro w'
                        go_simp
                        with_reducible rfl
                      rotate_left
                      · simp only [Act.put, List.setIfInBounds_toArray, List.set_cons_zero, List.set_cons_succ, i64_w, i32_w]
                        rfl
                      refine pure_ (i := 4) (N := some 69) (v := ?_) (a' := ?_) #[true, true, true, true, true, false, false, false, false, false, false, false, false, false, false] rfl rfl (any_of HT_.out (by kernel_rfl)) (fun _ _ _ h => h) (Or.inl ⟨by rfl, ?_⟩) ?_ ?_
                      rotate_left
                      · intro w'
                        go_simp
                        with_reducible rfl
                      rotate_left
                      · simp only [Act.put, List.setIfInBounds_toArray, List.set_cons_zero, List.set_cons_succ, i64_w, i32_w]
                        rfl
                      refine pure_ (i := 5) (N := some 70) (v := ?_) (a' := ?_) #[true, true, true, true, true, true, false, false, false, false, false, false, false, false, false] rfl rfl (any_of HT_.out (by kernel_rfl)) (fun _ _ _ h => h) (Or.inl ⟨by rfl, ?_⟩) ?_ ?_
                      rotate_left
                      · intro w'
                        go_simp
                        with_reducible rfl
                      rotate_left
                      · simp only [Act.put, List.setIfInBounds_toArray, List.set_cons_zero, List.set_cons_succ, i64_w, i32_w]
                        rfl
                      refine pure_ (i := 6) (N := some 71) (v := undef) (a' := ?_) #[true, true, true, true, true, true, true, false, false, false, false, false, false, false, false] rfl rfl (any_of HT_.out (by kernel_rfl)) (fun _ _ _ h => h) (Or.inr ⟨by rfl, rfl⟩) ?_ ?_
                      rotate_left
                      · simp only [Act.put, List.setIfInBounds_toArray, List.set_cons_zero, List.set_cons_succ, i64_w, i32_w]
                        rfl
                      refine pure_ (i := 7) (N := some 72) (v := undef) (a' := ?_) #[true, true, true, true, true, true, true, true, false, false, false, false, false, false, false] rfl rfl (any_of HT_.out (by kernel_rfl)) (fun _ _ _ h => h) (Or.inr ⟨by rfl, rfl⟩) ?_ ?_
                      rotate_left
                      · simp only [Act.put, List.setIfInBounds_toArray, List.set_cons_zero, List.set_cons_succ, i64_w, i32_w]
                        rfl
                      refine pure_ (i := 8) (N := some 73) (v := undef) (a' := ?_) #[true, true, true, true, true, true, true, true, true, false, false, false, false, false, false] rfl rfl (any_of HT_.out (by kernel_rfl)) (fun _ _ _ h => h) (Or.inr ⟨by rfl, rfl⟩) ?_ ?_
                      rotate_left
                      · simp only [Act.put, List.setIfInBounds_toArray, List.set_cons_zero, List.set_cons_succ, i64_w, i32_w]
                        rfl
                      refine pure_ (i := 9) (N := some 74) (v := undef) (a' := ?_) #[true, true, true, true, true, true, true, true, true, true, false, false, false, false, false] rfl rfl (any_of HT_.out (by kernel_rfl)) (fun _ _ _ h => h) (Or.inr ⟨by rfl, rfl⟩) ?_ ?_
                      rotate_left
                      · simp only [Act.put, List.setIfInBounds_toArray, List.set_cons_zero, List.set_cons_succ, i64_w, i32_w]
                        rfl
                      refine pure_ (i := 10) (N := some 75) (v := undef) (a' := ?_) #[true, true, true, true, true, true, true, true, true, true, true, false, false, false, false] rfl rfl (any_of HT_.out (by kernel_rfl)) (fun _ _ _ h => h) (Or.inr ⟨by rfl, rfl⟩) ?_ ?_
                      rotate_left
                      · simp only [Act.put, List.setIfInBounds_toArray, List.set_cons_zero, List.set_cons_succ, i64_w, i32_w]
                        rfl
                      refine pure_ (i := 11) (N := some 76) (v := ?_) (a' := ?_) #[true, true, true, true, true, true, true, true, true, true, true, true, false, false, false] rfl rfl (any_of HT_.out (by kernel_rfl)) (fun _ _ _ h => h) (Or.inl ⟨by rfl, ?_⟩) ?_ ?_
                      rotate_left
                      · intro w'
                        go_simp
                        with_reducible rfl
                      rotate_left
                      · simp only [Act.put, List.setIfInBounds_toArray, List.set_cons_zero, List.set_cons_succ, i64_w, i32_w]
                        rfl
                      refine one_ (i := 12) (N := some 77) #[true, true, true, true, true, true, true, true, true, true, true, true, true, false, false] rfl rfl (one_of HT_.out (by kernel_rfl)) (by decide) (fun K hK => ?_)
                      refine value_ (w1 := ?_) (v := ?_) (by rfl) rfl ?_ ?_
                      rotate_left 2
                      · go_simp
                        constructor
                        · rfl
                        · rfl
                      refine hK.out _ _ trivial (fun hHeld => ?_)
                      clear hK K
                      refine norm_ (a' := ?_) ?_ ?_
                      rotate_left
                      · show Act.put _ (some 77) _ = _
                        simp only [Act.put, List.setIfInBounds_toArray, List.set_cons_zero, List.set_cons_succ, i64_w, i32_w]
                        rfl
                      refine one_ (i := 13) (N := some 78) #[true, true, true, true, true, true, true, true, true, true, true, true, true, true, false] rfl rfl (one_of HT_.out (by kernel_rfl)) (by decide) (fun K hK => ?_)
                      refine Kd.R_append_step Kd.bool (w0 := w) w.heap.size (by rfl) (.tmp 65) (.tmp 77) 40 4 (.bool false) 1 rfl Try.underlying40 info4 rfl (by decide) (by omega) u10 x10_2 false [.bool false] (fun k_ => some k_ ≠ (.slice Ao7 t488.length co7 : Value).ownBlock ∧ some k_ ≠ (.slice Ao9 t491.length co9 : Value).ownBlock) (fun _ => False) rfl rfl ?aP (fun _ hk => hk.elim) ?aF ?aO ?aB ?aS ?aL ?_
                      (case aP => exact rfl)
                      (case aB => exact (by repeat (first | (with_reducible first | exact HB.out | apply below_alloc | apply pw_below_drewN | apply below_drew1 | refine below_set ?_ GE495.out) | exact HB.out)))
                      (case aF => exact (fun k_ hk => ⟨Kd.fresh' (Kd.R_lt (by (with_reducible repeat (first | apply Kd.R_alloc | apply Kd.R_drewN | apply Kd.R_drew)); exact HO_496000.out)) k_ hk, Kd.fresh' (Kd.R_lt (by (with_reducible repeat (first | apply Kd.R_alloc | apply Kd.R_drewN | apply Kd.R_drew)); exact HO_496001.out)) k_ hk⟩))
                      (case aO => exact (by (with_reducible repeat (first | apply Kd.R_alloc | apply Kd.R_drewN | apply Kd.R_drew)); exact HO_10.out))
                      (case aS => exact (below_size (by repeat (first | (with_reducible first | exact HB.out | apply below_alloc | apply pw_below_drewN | apply below_drew1 | refine below_set ?_ GE495.out) | exact HB.out))))
                      (case aL => have := LMc42.out; omega)
                      intro v515 w45 ho hb hg hat
                      rw [← Ny514.out] at ho
                      have n0_ := Aside0.mk (Kd.R_after (ok := (fun k_ => some k_ ≠ (.slice Ao9 t491.length co9 : Value).ownBlock)) (by (with_reducible repeat (first | apply Kd.R_alloc | apply Kd.R_drewN | apply Kd.R_drew)); exact Kd.R_mono HO_496000.out (fun _ hk => ⟨hk.2, hk.1⟩)) hg hat)
                      have n1_ := Aside0.mk (Kd.R_after (ok := (fun k_ => some k_ ≠ (.slice Ao7 t488.length co7 : Value).ownBlock)) (by (with_reducible repeat (first | apply Kd.R_alloc | apply Kd.R_drewN | apply Kd.R_drew)); exact Kd.R_mono HO_496001.out (fun _ hk => ⟨hk.2, hk.1⟩)) hg hat)
                      have n2_ := Aside0.mk (blk_grown (g := gb495) (o := .cells #[.slice Ao7 t488.length co7, .slice Ao9 t491.length co9] 55 (0, 0)) (by (with_reducible repeat (first | refine blk_drewN ?_ _ | refine blk_drew ?_ | refine blk_alloc ?_ _)); exact BK495.out) hg (Kd.R_ne HO_10.out BK495.out (by decide)))
                      have n3_ := Aside0.mk (hb)
                      have n4_ := Aside0.mk (ho)
                      clear HO_496000
                      clear HO_496001
                      clear BK495
                      clear HB
                      clear HO_10
                      have HO_496000 := n0_
                      have HO_496001 := n1_
                      have BK495 := n2_
                      have HB := n3_
                      have HO516 := n4_
                      clear n0_ n1_ n2_ n3_ n4_
                      clear ho hb hg hat
                      refine hK.out _ _ trivial (fun hHeld => ?_)
                      clear hK K
                      refine norm_ (a' := ?_) ?_ ?_
                      rotate_left
                      · show Act.put _ (some 78) _ = _
                        simp only [Act.put, List.setIfInBounds_toArray, List.set_cons_zero, List.set_cons_succ, i64_w, i32_w]
                        rfl
                      refine pure_ (i := 14) (N := some 10) (v := ?_) (a' := ?_) #[true, true, true, true, true, true, true, true, true, true, true, true, true, true, true] rfl rfl (any_of HT_.out (by kernel_rfl)) (fun _ _ _ h => h) (Or.inl ⟨by rfl, ?_⟩) ?_ ?_
                      rotate_left
                      · intro w'
                        go_simp
                        with_reducible rfl
                      rotate_left
                      · simp only [Act.put, List.setIfInBounds_toArray, List.set_cons_zero, List.set_cons_succ, i64_w, i32_w]
                        rfl
                      refine done_ (done_of HT_.out (by kernel_rfl)) ?_
                      try go_wp2
                      go_roundg k2
                      case measure => have := HJ3.out; have := HK2.out; omega
                      case rel => exact ⟨(y514), (wrap64 (x11_2 + 1)), (by first | rfl | (simp; done) | (simp [*]; done) | (simp [Int.tmod_eq_emod_of_nonneg]; done)), H', ⟨by have := HJ3.out; have := HK2.out; omega⟩, ⟨by (with_reducible repeat (first | apply Kd.R_alloc | apply Kd.R_drewN | apply Kd.R_drew)); exact HO516.out⟩, ⟨by (with_reducible repeat (first | apply Kd.R_alloc | apply Kd.R_drewN | apply Kd.R_drew)); exact Kd.R_mono HO_496000.out (fun _ hk => ⟨hk.2, hk.1⟩)⟩, ⟨by (with_reducible repeat (first | apply Kd.R_alloc | apply Kd.R_drewN | apply Kd.R_drew)); exact Kd.R_mono HO_496001.out (fun _ hk => ⟨hk.2, hk.1⟩)⟩, ⟨by (with_reducible repeat (first | refine blk_drewN ?_ _ | refine blk_drew ?_ | refine blk_alloc ?_ _)); exact BK495.out⟩, ⟨by repeat (first | (with_reducible first | exact HB.out | apply below_alloc | apply pw_below_drewN | apply below_drew1 | refine below_set ?_ GE495.out) | exact HB.out)⟩⟩
                    · rw [if_neg c42] at H
                      exact absurd H (by simp)
              · rw [if_neg c33] at H
                have c33b0 : decide (x11_2 < (wrap64 (a1 * (wrap64 ((t488.length : Int) + (t491.length : Int)))))) = false := decide_eq_false c33
                clear c33
                replace H := Option.bind_eq_some_iff.mp H
                obtain ⟨⟨t517, t518⟩, A460, H⟩ := H
                replace H : (some (t517, t518)) = some (r1, r2) := H
                have A46 := Aside0.mk A460
                clear A460
                simp only [Option.some.injEq, Prod.mk.injEq] at H
                obtain ⟨rfl, rfl⟩ := H
                have hcz47_0 : wr.cell? ⟨gb495, 0, none⟩ = some (.slice Ao7 t488.length co7) := (blk_cell BK495.out 0).trans rfl
                have hcz47_1 : wr.cell? ⟨gb495, 1, none⟩ = some (.slice Ao9 t491.length co9) := (blk_cell BK495.out 1).trans rfl
                have hfz47_0 := blk_frozen BK495.out 0
                have hfz47_1 := blk_frozen BK495.out 1
                obtain ⟨Ao48, co48, eo48⟩ := Kd.R_slice HO_10.out
                subst eo48
                go_wp2_with (first | ((with_reducible refine gate_callee (f := 50) rfl ?_); refine goesL_ (some 85) rfl rfl Try.func50 (by kernel_rfl) rfl #[.slice Ao48 x10_2.length co48, .int .i64 (wrap64 (a1 * (t488.length : Int)))] rfl (by (try simp only [List.map_toArray, List.map_cons, List.map_nil]); first | done | rfl | (simp only [List.length_drop, List.length_take]; rfl)) ?_; (with_reducible refine (spec_l2Fill.calls k2 _ _ x10_2 (wrap64 (a1 * (t488.length : Int))) t517 t518 _ ?side1 ?side2 A46.out).mono ?_); (case side1 => repeat (first | exact (Kd.R_reads' HO_10.out).2.2 | (with_reducible refine Kd.C_alloc ?_ _) | (with_reducible refine Kd.C_drewN ?_ _) | (with_reducible refine Kd.C_drew ?_))); (case side2 => exact (Kd.R_reads' HO_10.out).2.1); rintro e w49 ⟨rfl, hb⟩; refine ⟨_, rfl, ?_⟩; have n0_ := Aside0.mk (Kd.R_below (by (with_reducible repeat (first | apply Kd.R_alloc | apply Kd.R_drewN | apply Kd.R_drew)); exact HO_10.out) hb); have n1_ := Aside0.mk (Kd.R_below (by (with_reducible repeat (first | apply Kd.R_alloc | apply Kd.R_drewN | apply Kd.R_drew)); exact HO_496000.out) hb); have n2_ := Aside0.mk (Kd.R_below (by (with_reducible repeat (first | apply Kd.R_alloc | apply Kd.R_drewN | apply Kd.R_drew)); exact HO_496001.out) hb); have n3_ := Aside0.mk (blk_below (g := gb495) (o := .cells #[.slice Ao7 t488.length co7, .slice Ao9 t491.length co9] 55 (0, 0)) (by (with_reducible repeat (first | refine blk_drewN ?_ _ | refine blk_drew ?_ | refine blk_alloc ?_ _)); exact BK495.out) hb); have n4_ := Aside0.mk (below_step (by repeat (first | (with_reducible first | exact HB.out | apply below_alloc | apply pw_below_drewN | apply below_drew1 | refine below_set ?_ GE495.out) | exact HB.out)) hb); clear HO_10; clear HO_496000; clear HO_496001; clear BK495; clear HB; have HO_10 := n0_; have HO_496000 := n1_; have HO_496001 := n2_; have BK495 := n3_; have HB := n4_; clear n0_ n1_ n2_ n3_ n4_; (try clear hb); (try clear hb2); (try clear hk); (try clear hi)))
                go_ret2
                exact ⟨by first | rfl | (simp [errW_none, errW_some] <;> rfl) | (simp [*, errW_none, errW_some] <;> rfl) | (simp [errW_none, errW_some]; exact ⟨rfl, rfl⟩), by repeat (first | (with_reducible first | exact HB.out | apply below_alloc | apply pw_below_drewN | apply below_drew1 | refine below_set ?_ GE495.out) | exact HB.out)⟩

end Go.Proofs.Ytfoolgjofinmlaa.P

-- impl.set.below: all numbers of a set less than n.
namespace Go.Proofs.Ytfoolgjofinmlaa.P
open Go.RowKit Go.Proofs.YtfoolgjofinmlaaW.PrintWords Go.Proofs.YtfoolgjofinmlaaW.PrintLast Go.Proofs.YtfoolgjofinmlaaW.PrintMore
set_option linter.unusedVariables false
set_option linter.unusedSimpArgs false

/-- All numbers less than n. -/
def blw (f : Nat → Bool) (n : Nat) : List Int := ((List.range n).filter f).map Int.ofNat
theorem blw_succ (f : Nat → Bool) (n : Nat) : blw f (n + 1) = if f n = true then blw f n ++ [(n : Int)] else blw f n := by
  unfold blw
  rw [List.range_succ, List.filter_append]
  cases h : f n <;> simp [h]
theorem blw_length (f : Nat → Bool) (n : Nat) : (blw f n).length ≤ n := by
  unfold blw
  rw [List.length_map]
  have := List.length_filter_le f (List.range n)
  rwa [List.length_range] at this
theorem blw_pos (f : Nat → Bool) (n : Nat) : 0 < (blw f n).length ↔ ∃ m, m < n ∧ f m = true := by
  unfold blw
  rw [List.length_map, List.length_pos_iff_exists_mem]
  constructor
  · rintro ⟨m, h⟩; obtain ⟨h1, h2⟩ := List.mem_filter.1 h; exact ⟨m, List.mem_range.1 h1, h2⟩
  · rintro ⟨m, h1, h2⟩; exact ⟨m, List.mem_filter.2 ⟨List.mem_range.2 h1, h2⟩⟩
theorem below_l0 (a b : List Bool) (hb : b ≠ []) (hl : a.length + b.length ≤ 1000000) (n : Nat) (hn : n ≤ 1000000) : ∀ (e i : Nat), i ≤ n → n - i = e →
    Ev (fun k => impl_set_below.l0 k (blw (hasB a b) i) n i a b) (blw (hasB a b) n) := by
  intro e
  induction e with
  | zero =>
    intro i hi he
    have e : i = n := by omega
    subst e
    refine Ev.step (f := fun k => some (blw (hasB a b) i)) (fun k => ?_) (Ev.now _)
    simp only [impl_set_below.l0]; rw [if_neg (by omega)]
  | succ e ih =>
    intro i hi he
    have e1 := ihas_f a b hb (by omega) i (by omega)
    have hih := ih (i + 1) (by omega) (by omega)
    have hlen := blw_length (hasB a b) i
    rw [blw_succ] at hih
    refine Ev.step (fun k => ?_) hih
    simp only [impl_set_below.l0]
    rw [if_pos (by omega), e1, wsucc (by omega)]
    simp only [Option.bind_some]
    cases h : hasB a b i with
    | true => rw [if_pos (by trivial), if_pos (by omega), if_pos (by trivial)]
    | false => rw [if_neg (by decide), if_neg (by decide)]
theorem setBelow_f (a b : List Bool) (hb : b ≠ []) (hl : a.length + b.length ≤ 1000000) (n : Nat) (hn : n ≤ 1000000) : Ev (fun k => impl_set_below.f k a b n) (blw (hasB a b) n) :=
  below_l0 a b hb hl n hn _ 0 (Nat.zero_le _) rfl
end Go.Proofs.Ytfoolgjofinmlaa.P

-- impl.in: a number in a range.
namespace Go.Proofs.Ytfoolgjofinmlaa.P
open Go.RowKit Go.Proofs.YtfoolgjofinmlaaW.PrintWords Go.Proofs.YtfoolgjofinmlaaW.PrintLast Go.Proofs.YtfoolgjofinmlaaW.PrintMore
set_option linter.unusedVariables false
set_option linter.unusedSimpArgs false

theorem in_f (a b c : Int) : impl_in.f a b c = some (decide (b ≤ a ∧ a ≤ c)) := by
  unfold impl_in.f
  by_cases h : a ≥ b
  · rw [if_pos h]; congr 1; apply decide_eq_decide.2; omega
  · rw [if_neg h]; congr 1; symm; rw [decide_eq_false_iff_not]; omega
theorem drawn0_below {w w1 : World} (h : Drawn0 w w1) : Below w.heap.size w w1 := by
  obtain ⟨q, rfl⟩ := h
  exact pw_below_drewN (Below.refl _ _) q

end Go.Proofs.Ytfoolgjofinmlaa.P

-- impl.MakeEvery: all n for which k n + r is in the set.
namespace Go.Proofs.Ytfoolgjofinmlaa.P
open Go.RowKit Go.Proofs.YtfoolgjofinmlaaW.PrintWords Go.Proofs.YtfoolgjofinmlaaW.PrintLast Go.Proofs.YtfoolgjofinmlaaW.PrintMore
set_option linter.unusedVariables false
set_option linter.unusedSimpArgs false

/-- Each k-th number from r on. -/
def evq (f : Nat → Bool) (k r : Nat) : Nat → Bool := fun n => f (k * n + r)
theorem evq_per {f : Nat → Bool} {m p : Nat} (h : Per f m p) {k : Nat} (hk : 1 ≤ k) (r : Nat) : Per (evq f k r) m p := fun n hn => by
  have h1 := h.mul k (k * n + r) (by have := Nat.mul_le_mul hk hn; omega)
  unfold evq
  rw [Nat.mul_add, show k * n + k * p + r = k * n + r + k * p by omega, h1]
/-- What impl.MakeEvery answers. -/
noncomputable def evr (s : List UInt8) (k r : Int) : ByteArray × Bool := if (parse s).isSome && (decide (1 ≤ k ∧ k ≤ 20) && decide (0 ≤ r ∧ r ≤ 100)) then txt (cn (evq (setf s) k.toNat r.toNat)) else (⟨#[]⟩, false)
noncomputable def impl_MakeEvery.f (s : ByteArray) (k r : Int) : Option (ByteArray × Bool) := if s.size ≤ 70368744177664 then some (evr (chrs s) k r) else none

theorem two_cells (w : World) (x y : Value) (t t' : TypeId) : ((w.alloc (.cells #[x] t)).alloc (.cells #[y] t')).cell? ⟨w.heap.size, 0, none⟩ = some x ∧ ((w.alloc (.cells #[x] t)).alloc (.cells #[y] t')).cell? ⟨w.heap.size + 1, 0, none⟩ = some y := by
  refine ⟨Lib.cell?_alloc_some _ (by simp), ?_⟩
  simp
set_option maxHeartbeats 8000000 in
set_option maxRecDepth 100000 in
theorem every_q_calls (t r : List Bool) (hr : r ≠ []) (hl : t.length ≤ 60 ∧ r.length ≤ 60) (A0 : Option Addr) (c0 : Nat) (A1 : Option Addr) (c1 n k a b b2 : Nat) (hn : n ≤ 10000) (hk : k ≤ 1000) (ha : a ≤ 1000) (W : World)
    (hC0 : Kd.C Kd.bool W A0 t.length t) (h0 : t.length ≤ c0) (hC1 : Kd.C Kd.bool W A1 r.length r) (h1 : r.length ≤ c1) (hb : W.cell? ⟨b, 0, none⟩ = some (.int .i64 (k : Int))) (hb2 : W.cell? ⟨b2, 0, none⟩ = some (.int .i64 (a : Int))) :
    Calls Try.prog 52 #[.agg #[.slice A0 t.length c0, .slice A1 r.length c1], .int .i64 n, .pointer (some ⟨b, 0, none⟩), .pointer (some ⟨b2, 0, none⟩)] W fun e w' => e = .returned (.bool (evq (hasB t r) k a n)) ∧ Below W.heap.size W w' := by
  have hm : k * n ≤ 1000 * 10000 := Nat.mul_le_mul hk hn
  have hs1 : IntKind.i64.wrap ((k : Int) * (n : Int)) = ((k * n : Nat) : Int) := by rw [IntKind.wrap_i64, ← Int.natCast_mul]; generalize k * n = x at *; omega
  have hs : IntKind.i64.wrap (((k * n : Nat) : Int) + (a : Int)) = ((k * n + a : Nat) : Int) := by rw [IntKind.wrap_i64]; generalize k * n = x at *; omega
  have HC := fun (o : Obj) => Aside0.mk (impl_set_has.calls A0 c0 t A1 c1 r ((k * n + a : Nat) : Int) (hasB t r (k * n + a)) (W.alloc o) (Kd.C_alloc hC0 o) h0 (Kd.C_alloc hC1 o) h1 (ihas_f t r hr (by omega) (k * n + a) (by omega)))
  have hc1 : ∀ o, (W.alloc o).cell? ⟨b, 0, none⟩ = some (.int .i64 (k : Int)) := fun o => Lib.cell?_alloc_some _ hb
  have hc2 : ∀ o, (W.alloc o).cell? ⟨b2, 0, none⟩ = some (.int .i64 (a : Int)) := fun o => Lib.cell?_alloc_some _ hb2
  have hu := Try.underlying42
  have HS := Aside0.mk hs
  obtain ⟨x, hx⟩ : ∃ x : Nat, k * n = x := ⟨_, rfl⟩
  obtain ⟨y, hy⟩ : ∃ y : Nat, k * n + a = y := ⟨_, rfl⟩
  have hv : evq (hasB t r) k a n = hasB t r y := by rw [← hy]; rfl
  rw [hv]
  rw [hy] at hs HC
  rw [hx] at hs1 hs
  clear hC0 hC1 h0 h1 hl hr hb hb2 hv hx hy hm HS
  go_enter Try.func52, Try.ntmps52
  go_wp2_with (go_at_call 32; refine (HC _).out.mono ?_; rintro e w' ⟨rfl, hb⟩)
  go_ret
  exact ⟨rfl, below_step (below_alloc (Below.refl _ _) _) hb⟩

set_option maxHeartbeats 8000000 in
set_option maxRecDepth 100000 in
theorem impl_MakeEvery.calls (a0 : ByteArray) (a1 a2 : Int) (r1 : ByteArray) (r2 : Bool) (w : World) (h : impl_MakeEvery.f a0 a1 a2 = some (r1, r2)) :
    Calls Try.prog 25 #[.string a0, .int .i64 a1, .int .i64 a2] w fun e w' => e = .returned (.tuple #[.string r1, .bool r2]) ∧ Below w.heap.size w w' := by
  unfold impl_MakeEvery.f at h
  split at h
  · rename_i hs
    simp only [Option.some.injEq] at h
    have hin1 := in_f a1 1 20
    have hin2 := in_f a2 0 100
    obtain ⟨bm1, hbm1⟩ : ∃ bm, decide (1 ≤ a1 ∧ a1 ≤ 20) = bm := ⟨_, rfl⟩
    obtain ⟨bm2, hbm2⟩ : ∃ bm, decide (0 ≤ a2 ∧ a2 ≤ 100) = bm := ⟨_, rfl⟩
    have eg : ∀ args w, (callFunc 52 args).run Try.prog w = .ok (.enter 52 args) w := enters_of Try.func52 (by kernel_rfl) rfl
    have hx : ∀ (w1 : World) (b b2 : Nat), w1.cell? ⟨b, 0, none⟩ = some (.int .i64 a1) → w1.cell? ⟨b2, 0, none⟩ = some (.int .i64 a2) → b < w1.heap.size → b2 < w1.heap.size → Calls Try.prog 37 #[.string a0, .bool (bm1 && bm2), .func (.func 52) #[] #[.pointer (some ⟨b, 0, none⟩), .pointer (some ⟨b2, 0, none⟩)]] w1 fun e w' => e = .returned (.tuple #[.string r1, .bool r2]) ∧ Below w1.heap.size w1 w' := by
      intro w1 b b2 hc hc2 hlt hlt2
      have := single_calls a0 hs (bm1 && bm2) 52 #[.pointer (some ⟨b, 0, none⟩), .pointer (some ⟨b2, 0, none⟩)] (evq (setf (chrs a0)) a1.toNat a2.toNat) w1 eg
        (fun hm t r hp => by
          rw [← hbm1] at hm
          have hm := of_decide_eq_true (Bool.and_eq_true_iff.1 hm).1
          rw [setf_some hp]; exact evq_per (hasB_per t r) (by omega) _)
        (fun hm t r hp W A0 c0 A1 c1 n hW hC0 h0 hC1 h1 hn => by
          have hb := parse_some hp
          rw [← hbm1, ← hbm2] at hm
          have hm1 := of_decide_eq_true (Bool.and_eq_true_iff.1 hm).1
          have hm2 := of_decide_eq_true (Bool.and_eq_true_iff.1 hm).2
          obtain ⟨k, rfl⟩ := Int.eq_ofNat_of_zero_le (show 0 ≤ a1 by omega)
          obtain ⟨a, rfl⟩ := Int.eq_ofNat_of_zero_le hm2.1
          rw [setf_some hp, Int.toNat_natCast, Int.toNat_natCast]
          exact every_q_calls t r hb.2.2 ⟨hb.1, hb.2.1⟩ A0 c0 A1 c1 n k a b b2 (by omega) (by omega) (by omega) W hC0 h0 hC1 h1 ((hW.cell (p := ⟨b, 0, none⟩) hlt).trans hc) ((hW.cell (p := ⟨b2, 0, none⟩) hlt2).trans hc2))
      unfold evr at h
      rw [hbm1, hbm2] at h
      rw [h] at this
      exact this
    rw [hbm1] at hin1
    rw [hbm2] at hin2
    clear hbm1 hbm2
    have HX := Aside0.mk hx
    have HI1 := fun w => Aside0.mk (impl_in.calls a1 1 20 _ w hin1)
    have HI2 := fun w => Aside0.mk (impl_in.calls a2 0 100 _ w hin2)
    have HC := Aside0.mk (two_cells w (.int .i64 a1) (.int .i64 a2) 3 3)
    clear hx h hs hin1 hin2 eg
    cases bm1 with
    | true =>
      go_enter Try.func25, Try.ntmps25
      go_wp2_with (first
        | (go_at_call 40; with_reducible refine (HI1 _).out.mono ?_; rintro e w1 ⟨rfl, hd⟩; have hb := drawn0_below hd; have c1 := (hb.cell (p := ⟨w.heap.size, 0, none⟩) (by simp; omega)).trans HC.out.1; have c2 := (hb.cell (p := ⟨w.heap.size + 1, 0, none⟩) (by simp)).trans HC.out.2; have hl1 : w.heap.size + 1 < w1.heap.size := Nat.lt_of_lt_of_le (by simp) hb.size; have HB := Aside0.mk (below_step (below_alloc (below_alloc (Below.refl w.heap.size w) _) _) hb); clear hd hb)
        | (go_at_call 40; with_reducible refine (HI2 _).out.mono ?_; rintro e w2 ⟨rfl, hd⟩; have hb2 := drawn0_below hd; have d1 := (hb2.cell (p := ⟨w.heap.size, 0, none⟩) (by show w.heap.size < w1.heap.size; omega)).trans c1; have d2 := (hb2.cell (p := ⟨w.heap.size + 1, 0, none⟩) hl1).trans c2; have hl2 : w.heap.size + 1 < w2.heap.size := Nat.lt_of_lt_of_le hl1 hb2.size; have HB2 := Aside0.mk (below_step HB.out hb2); clear hd hb2 HB)
        | (go_at_call 37; refine (HX.out _ _ _ d1 d2 (by omega) hl2).mono ?_; rintro e w3 ⟨rfl, hb3⟩))
      go_ret2
      exact ⟨rfl, below_step HB2.out hb3⟩
    | false =>
      go_enter Try.func25, Try.ntmps25
      go_wp2_with (first
        | (go_at_call 40; with_reducible refine (HI1 _).out.mono ?_; rintro e w1 ⟨rfl, hd⟩; have hb := drawn0_below hd; have c1 := (hb.cell (p := ⟨w.heap.size, 0, none⟩) (by simp; omega)).trans HC.out.1; have c2 := (hb.cell (p := ⟨w.heap.size + 1, 0, none⟩) (by simp)).trans HC.out.2; have hl1 : w.heap.size + 1 < w1.heap.size := Nat.lt_of_lt_of_le (by simp) hb.size; have HB := Aside0.mk (below_step (below_alloc (below_alloc (Below.refl w.heap.size w) _) _) hb); clear hd hb)
        | (go_at_call 37; refine (HX.out _ _ _ c1 c2 (by omega) hl1).mono ?_; rintro e w3 ⟨rfl, hb3⟩))
      go_ret2
      exact ⟨rfl, below_step HB.out hb3⟩
  · cases h
end Go.Proofs.Ytfoolgjofinmlaa.P

-- impl.MakeOver: all whole parts over k.
namespace Go.Proofs.Ytfoolgjofinmlaa.P
open Go.RowKit Go.Proofs.YtfoolgjofinmlaaW.PrintWords Go.Proofs.YtfoolgjofinmlaaW.PrintLast Go.Proofs.YtfoolgjofinmlaaW.PrintMore
set_option linter.unusedVariables false
set_option linter.unusedSimpArgs false

/-- All whole parts over k. -/
def ovq (f : Nat → Bool) (k : Nat) : Nat → Bool := fun n => (List.range k).any fun i => f (k * n + i)
theorem ovq_per {f : Nat → Bool} {m p : Nat} (h : Per f m p) {k : Nat} (hk : 1 ≤ k) : Per (ovq f k) m p := fun n hn => by
  unfold ovq
  congr 1
  funext i
  have h1 := h.mul k (k * n + i) (by have := Nat.mul_le_mul hk hn; omega)
  rw [Nat.mul_add, show k * n + k * p + i = k * n + i + k * p by omega, h1]
theorem ovq_true {f : Nat → Bool} {k n i : Nat} (hi : i < k) (h : f (k * n + i) = true) : ovq f k n = true := by
  unfold ovq; rw [List.any_eq_true]; exact ⟨i, List.mem_range.2 hi, h⟩
theorem ovq_false {f : Nat → Bool} {k n : Nat} (h : ∀ i, i < k → f (k * n + i) = false) : ovq f k n = false := by
  unfold ovq; rw [List.any_eq_false]; intro i hi; rw [h i (List.mem_range.1 hi)]; decide
/-- What impl.MakeOver answers. -/
noncomputable def ovr (s : List UInt8) (k : Int) : ByteArray × Bool := if (parse s).isSome && decide (1 ≤ k ∧ k ≤ 20) then txt (cn (ovq (setf s) k.toNat)) else (⟨#[]⟩, false)
noncomputable def impl_MakeOver.f (s : ByteArray) (k : Int) : Option (ByteArray × Bool) := if s.size ≤ 70368744177664 then some (ovr (chrs s) k) else none
theorem makeOver_f (s : ByteArray) (hs : s.size ≤ 70368744177664) (k : Int) : impl_MakeOver.f s k = some (ovr (chrs s) k) := by unfold impl_MakeOver.f; rw [if_pos hs]

set_option maxHeartbeats 8000000 in
set_option maxRecDepth 100000 in
theorem over_q_calls (t r : List Bool) (hr : r ≠ []) (hl : t.length ≤ 60 ∧ r.length ≤ 60) (A0 : Option Addr) (c0 : Nat) (A1 : Option Addr) (c1 n k b : Nat) (hn : n ≤ 10000) (hk : k ≤ 1000) (W : World)
    (hC0 : Kd.C Kd.bool W A0 t.length t) (h0 : t.length ≤ c0) (hC1 : Kd.C Kd.bool W A1 r.length r) (h1 : r.length ≤ c1) (hb : W.cell? ⟨b, 0, none⟩ = some (.int .i64 (k : Int))) :
    Calls Try.prog 51 #[.agg #[.slice A0 t.length c0, .slice A1 r.length c1], .int .i64 n, .pointer (some ⟨b, 0, none⟩)] W fun e w' => e = .returned (.bool (ovq (hasB t r) k n)) ∧ Below W.heap.size W w' := by
  have hm : k * n ≤ 1000 * 10000 := Nat.mul_le_mul hk hn
  have hs1 : IntKind.i64.wrap ((k : Int) * (n : Int)) = ((k * n : Nat) : Int) := by rw [IntKind.wrap_i64, ← Int.natCast_mul]; generalize k * n = x at *; omega
  have HC := fun (W' : World) (hw : Below W.heap.size W W') (i : Nat) (hi : k * n + i ≤ 70368744177664) => Aside0.mk (impl_set_has.calls A0 c0 t A1 c1 r ((k * n + i : Nat) : Int) (hasB t r (k * n + i)) W' (Kd.C_below hC0 hw) h0 (Kd.C_below hC1 hw) h1 (ihas_f t r hr (by omega) (k * n + i) hi))
  have hT : ∀ i, i < k → hasB t r (k * n + i) = true → ovq (hasB t r) k n = true := fun i hi h => ovq_true hi h
  have hF : (∀ i, i < k → hasB t r (k * n + i) = false) → ovq (hasB t r) k n = false := ovq_false
  have hbl : b < W.heap.size := World.block_lt_of_cell? W _ hb
  have hu := Try.underlying42
  have hcb : ∀ W', Below W.heap.size W W' → W'.cell? ⟨b, 0, none⟩ = some (.int .i64 (k : Int)) := fun W' hw => (hw.cell (p := ⟨b, 0, none⟩) hbl).trans hb
  have hb1 : ∀ o, (W.alloc o).cell? ⟨b, 0, none⟩ = some (.int .i64 (k : Int)) := fun o => Lib.cell?_alloc_some _ hb
  generalize ovq (hasB t r) k n = res at *
  generalize k * n = x at *
  clear hC0 hC1 h0 h1 hl hr
  go_enter Try.func51, Try.ntmps51
  go_wp2
  go_loopg [8] k (fun gg s8 wr => ∃ i : Nat, i ≤ k ∧ k - i ≤ gg ∧ s8 = .int .i64 i ∧ Aside0 (∀ j, j < i → hasB t r (x + j) = false) ∧ Aside0 (Below W.heap.size W wr) ∧ wr.cell? ⟨W.heap.size, 0, none⟩ = some (.slice A0 t.length c0) ∧ wr.cell? ⟨W.heap.size, 1, none⟩ = some (.slice A1 r.length c1) ∧ W.heap.size < wr.heap.size)
  case atStart => exact ⟨0, Nat.zero_le _, by omega, rfl, ⟨fun j hj => by omega⟩, ⟨below_alloc (Below.refl _ _) _⟩, by simp, by simp, by simp⟩
  case round =>
    obtain ⟨i, hi, hgg, rfl, HF, HB, d0, d1, hlt⟩ := hrel
    have db := hcb _ HB.out
    by_cases hik : i < k
    · have hs2 : IntKind.i64.wrap ((x : Int) + (i : Int)) = ((x + i : Nat) : Int) := by rw [IntKind.wrap_i64]; omega
      have HC1 := HC _ HB.out i (by omega)
      cases hv : hasB t r (x + i) with
      | true =>
        have hT1 := Aside0.mk (hT i hik hv)
        rw [hv] at HC1
        clear HC hT hF hcb hv
        go_wp2_with (go_at_call 32; refine HC1.out.mono ?_; rintro e w1 ⟨rfl, hd⟩)
        go_ret
        exact ⟨by rw [hT1.out]; rfl, below_step HB.out hd⟩
      | false =>
        rw [hv] at HC1
        have HV := Aside0.mk hv
        clear HC hT hF hcb hv
        go_wp2_with (go_at_call 32; refine HC1.out.mono ?_; rintro e w1 ⟨rfl, hd⟩)
        go_roundg (k - (i + 1))
        case measure => omega
        case rel => exact ⟨i + 1, by omega, by omega, by go_num, ⟨fun j hj => by
          rcases Nat.lt_or_ge j i with h | h
          · exact HF.out j h
          · rw [show j = i by omega]; exact HV.out⟩, ⟨below_step HB.out hd⟩, (hd.cell (p := ⟨W.heap.size, 0, none⟩) hlt).trans d0, (hd.cell (p := ⟨W.heap.size, 1, none⟩) hlt).trans d1, Nat.lt_of_lt_of_le hlt hd.size⟩
    · have e : i = k := by omega
      subst e
      have hF1 := Aside0.mk (hF HF.out)
      clear HC hT hF hcb
      go_wp2
      go_ret
      exact ⟨by rw [hF1.out]; rfl, HB.out⟩

set_option maxHeartbeats 8000000 in
set_option maxRecDepth 100000 in
theorem impl_MakeOver.calls (a0 : ByteArray) (a1 : Int) (r1 : ByteArray) (r2 : Bool) (w : World) (h : impl_MakeOver.f a0 a1 = some (r1, r2)) :
    Calls Try.prog 24 #[.string a0, .int .i64 a1] w fun e w' => e = .returned (.tuple #[.string r1, .bool r2]) ∧ Below w.heap.size w w' := by
  unfold impl_MakeOver.f at h
  split at h
  · rename_i hs
    simp only [Option.some.injEq] at h
    have hin := in_f a1 1 20
    obtain ⟨bm, hbm⟩ : ∃ bm, decide (1 ≤ a1 ∧ a1 ≤ 20) = bm := ⟨_, rfl⟩
    have eg : ∀ args w, (callFunc 51 args).run Try.prog w = .ok (.enter 51 args) w := enters_of Try.func51 (by kernel_rfl) rfl
    have hx : ∀ w1 : World, w1.cell? ⟨w.heap.size, 0, none⟩ = some (.int .i64 a1) → w.heap.size < w1.heap.size → Calls Try.prog 37 #[.string a0, .bool bm, .func (.func 51) #[] #[.pointer (some ⟨w.heap.size, 0, none⟩)]] w1 fun e w' => e = .returned (.tuple #[.string r1, .bool r2]) ∧ Below w1.heap.size w1 w' := by
      intro w1 hc hlt
      have := single_calls a0 hs (decide (1 ≤ a1 ∧ a1 ≤ 20)) 51 #[.pointer (some ⟨w.heap.size, 0, none⟩)] (ovq (setf (chrs a0)) a1.toNat) w1 eg
        (fun hm t r hp => by
          have hm := of_decide_eq_true hm
          rw [setf_some hp]; exact ovq_per (hasB_per t r) (by omega))
        (fun hm t r hp W A0 c0 A1 c1 n hW hC0 h0 hC1 h1 hn => by
          have hb := parse_some hp
          have hm := of_decide_eq_true hm
          obtain ⟨k, rfl⟩ := Int.eq_ofNat_of_zero_le (show 0 ≤ a1 by omega)
          rw [setf_some hp, Int.toNat_natCast]
          exact over_q_calls t r hb.2.2 ⟨hb.1, hb.2.1⟩ A0 c0 A1 c1 n k w.heap.size (by omega) (by omega) W hC0 h0 hC1 h1 ((hW.cell (p := ⟨w.heap.size, 0, none⟩) hlt).trans hc))
      unfold ovr at h
      rw [h, hbm] at this
      exact this
    rw [hbm] at hin
    clear hbm
    have HX := Aside0.mk hx
    have HI := fun w => Aside0.mk (impl_in.calls a1 1 20 _ w hin)
    clear hx h hs hin eg
    go_enter Try.func24, Try.ntmps24
    go_wp2_with (first
      | (go_at_call 40; refine (HI _).out.mono ?_; rintro e w1 ⟨rfl, hd⟩; have hb := drawn0_below hd; have c1 := (hb.cell (p := ⟨w.heap.size, 0, none⟩) (by simp)).trans (by simp : (w.alloc (.cells #[.int .i64 a1] _)).cell? ⟨w.heap.size, 0, none⟩ = some (.int .i64 a1)); have hl1 : w.heap.size < w1.heap.size := Nat.lt_of_lt_of_le (by simp) hb.size; have HB := Aside0.mk (below_step (below_alloc (Below.refl w.heap.size w) _) hb); clear hd hb)
      | (go_at_call 37; refine (HX.out _ c1 hl1).mono ?_; rintro e w2 ⟨rfl, hb2⟩))
    go_ret2
    exact ⟨rfl, below_step HB.out hb2⟩
  · cases h
end Go.Proofs.Ytfoolgjofinmlaa.P

-- impl.MakeTimes: each number times k.
namespace Go.Proofs.Ytfoolgjofinmlaa.P
open Go.RowKit Go.Proofs.YtfoolgjofinmlaaW.PrintWords Go.Proofs.YtfoolgjofinmlaaW.PrintLast Go.Proofs.YtfoolgjofinmlaaW.PrintMore
set_option linter.unusedVariables false
set_option linter.unusedSimpArgs false

/-- Each number times k. -/
noncomputable def tmq (f : Nat → Bool) (k : Nat) : Nat → Bool := fun n => if k = 0 then decide (n = 0) && dec (∃ m, f m = true) else decide (n % k = 0) && f (n / k)
theorem tmq_zero (f : Nat → Bool) : tmq f 0 = fun n => decide (n = 0) && dec (∃ m, f m = true) := by funext n; unfold tmq; rw [if_pos rfl]
theorem tmq_pos (f : Nat → Bool) {k : Nat} (hk : 1 ≤ k) : tmq f k = fun n => decide (n % k = 0) && f (n / k) := by funext n; unfold tmq; rw [if_neg (by omega)]
theorem tmq_per0 (f : Nat → Bool) : Per (tmq f 0) 1 1 := fun n hn => by
  rw [tmq_zero]
  show (decide (n + 1 = 0) && _) = (decide (n = 0) && _)
  rw [decide_eq_false (by omega), decide_eq_false (by omega)]
theorem tmq_per {f : Nat → Bool} {m p : Nat} (h : Per f m p) {k : Nat} (hk : 1 ≤ k) : Per (tmq f k) (k * m) (k * p) := fun n hn => by
  rw [tmq_pos f hk]
  show (decide ((n + k * p) % k = 0) && f ((n + k * p) / k)) = (decide (n % k = 0) && f (n / k))
  rw [Nat.add_mul_mod_self_left, Nat.add_mul_div_left n p (by omega), h (n / k) ((Nat.le_div_iff_mul_le (by omega)).2 (by rw [Nat.mul_comm]; exact hn))]
/-- What impl.MakeTimes answers. -/
noncomputable def tmr (s : List UInt8) (k : Int) : ByteArray × Bool := if (parse s).isSome && decide (0 ≤ k ∧ k ≤ 20) then txt (cn (tmq (setf s) k.toNat)) else (⟨#[]⟩, false)
noncomputable def impl_MakeTimes.f (s : ByteArray) (k : Int) : Option (ByteArray × Bool) := if s.size ≤ 70368744177664 then some (tmr (chrs s) k) else none
theorem makeTimes_f (s : ByteArray) (hs : s.size ≤ 70368744177664) (k : Int) : impl_MakeTimes.f s k = some (tmr (chrs s) k) := by unfold impl_MakeTimes.f; rw [if_pos hs]
theorem any_below {f : Nat → Bool} {m p : Nat} (hp : 0 < p) (h : Per f m p) : decide (((blw f (m + p)).length : Int) > 0) = dec (∃ k, f k = true) := by
  rw [Bool.eq_iff_iff, decide_eq_true_iff, dec_iff]
  have h1 := blw_pos f (m + p)
  constructor
  · intro h2; obtain ⟨k, _, h3⟩ := h1.1 (by omega); exact ⟨k, h3⟩
  · rintro ⟨k, h3⟩
    have : 0 < (blw f (m + p)).length := h1.2 (by
      rcases Nat.lt_or_ge k m with h4 | h4
      · exact ⟨k, by omega, h3⟩
      · rw [h.mod k h4] at h3
        exact ⟨_, by have := Nat.mod_lt (k - m) hp; omega, h3⟩)
    omega

set_option maxHeartbeats 8000000 in
theorem times1_q_calls (n b : Nat) (v : Bool) (W : World) (hb : W.cell? ⟨b, 0, none⟩ = some (.bool v)) :
    Calls Try.prog 43 #[.int .i64 n, .pointer (some ⟨b, 0, none⟩)] W fun e w' => e = .returned (.bool (decide (n = 0) && v)) ∧ Below W.heap.size W w' := by
  by_cases h0 : n = 0
  · subst h0
    go_enter Try.func43, Try.ntmps43
    go_wp2
    go_ret
    exact ⟨by cases v <;> rfl, Below.refl _ _⟩
  · have h1 : ¬ ((n : Int) = 0) := by omega
    rw [decide_eq_false h0]
    go_enter Try.func43, Try.ntmps43
    go_wp2
    go_ret
    exact ⟨rfl, Below.refl _ _⟩

set_option maxHeartbeats 8000000 in
set_option maxRecDepth 100000 in
theorem times2_q_calls (t r : List Bool) (hr : r ≠ []) (hl : t.length ≤ 60 ∧ r.length ≤ 60) (A0 : Option Addr) (c0 : Nat) (A1 : Option Addr) (c1 n k b b2 : Nat) (hn : n ≤ 100000) (hk : 1 ≤ k) (hk2 : k ≤ 1000) (W : World)
    (hC0 : Kd.C Kd.bool W A0 t.length t) (h0 : t.length ≤ c0) (hC1 : Kd.C Kd.bool W A1 r.length r) (h1 : r.length ≤ c1) (hb : W.cell? ⟨b, 0, none⟩ = some (.int .i64 (k : Int)))
    (hx0 : W.cell? ⟨b2, 0, none⟩ = some (.slice A0 t.length c0)) (hx1 : W.cell? ⟨b2, 1, none⟩ = some (.slice A1 r.length c1)) :
    Calls Try.prog 44 #[.int .i64 n, .pointer (some ⟨b, 0, none⟩), .pointer (some ⟨b2, 0, none⟩)] W fun e w' => e = .returned (.bool (decide (n % k = 0) && hasB t r (n / k))) ∧ Below W.heap.size W w' := by
  have hdv : n / k ≤ n := Nat.div_le_self _ _
  have HC := fun (W' : World) (hw : Below W.heap.size W W') => Aside0.mk (impl_set_has.calls A0 c0 t A1 c1 r ((n / k : Nat) : Int) (hasB t r (n / k)) W' (Kd.C_below hC0 hw) h0 (Kd.C_below hC1 hw) h1 (ihas_f t r hr (by omega) (n / k) (by omega)))
  have hl1 := World.block_lt_of_cell? W _ hb
  have hl2 := World.block_lt_of_cell? W _ hx0
  have hu := Try.underlying42
  have hk0 : ¬ ((k : Int) = 0) := by omega
  have hk1 : (1 : Int) ≤ (k : Int) := by omega
  have hk3 : ((k : Int) == 0) = false := by rw [beq_eq_false_iff_ne]; exact hk0
  have hk4 : decide ((k : Int) = 0) = false := decide_eq_false hk0
  have hrem : Int.tmod (n : Int) (k : Int) = ((n % k : Nat) : Int) := tmod_nat n k
  have hquo : Int.tdiv (n : Int) (k : Int) = ((n / k : Nat) : Int) := tdiv_nat n k
  have hw1 : IntKind.i64.wrap ((n / k : Nat) : Int) = ((n / k : Nat) : Int) := by rw [IntKind.wrap_i64]; generalize n / k = x at *; omega
  have hw2 : IntKind.i64.wrap ((n % k : Nat) : Int) = ((n % k : Nat) : Int) := by rw [IntKind.wrap_i64]; have := Nat.mod_lt n hk; generalize n % k = x at *; omega
  have HK : ∀ w', Below W.heap.size W w' → (w'.cell? ⟨b, 0, none⟩ = some (.int .i64 (k : Int)) ∧ w'.cell? ⟨b2, 0, none⟩ = some (.slice A0 t.length c0) ∧ w'.cell? ⟨b2, 1, none⟩ = some (.slice A1 r.length c1) ∧ Below W.heap.size W w') := fun w' hw =>
    ⟨(hw.cell (p := ⟨b, 0, none⟩) hl1).trans hb, (hw.cell (p := ⟨b2, 0, none⟩) hl2).trans hx0, (hw.cell (p := ⟨b2, 1, none⟩) hl2).trans hx1, hw⟩
  have HKA := Aside0.mk HK
  generalize hasB t r (n / k) = res at *
  generalize n / k = q at *
  have hm : decide (n % k = 0) = decide (((n % k : Nat) : Int) = 0) := decide_eq_decide.2 (by omega)
  rw [hm]
  generalize n % k = m at *
  clear HK hC0 hC1 h0 h1 hl hr hm hdv
  by_cases hz : m = 0
  · subst hz
    have hrem0 : Int.tmod (n : Int) (k : Int) = 0 := hrem
    have hw3 : IntKind.i64.wrap 0 = 0 := hw2
    have hw4 : IntKind.i64.wrap (Int.tmod (n : Int) (k : Int)) = 0 := by rw [hrem0]; exact hw2
    clear hrem hw2
    go_enter Try.func44, Try.ntmps44
    go_wp2
    go_region_with (go_at_call 32; refine (HC _ (by repeat (first | exact Below.refl _ _ | apply below_drew1))).out.mono ?_; rintro e w1 ⟨rfl, hd1⟩)
    all_goals go_wp2
    all_goals go_ret
    all_goals exact ⟨by first | rfl | (cases res <;> rfl), below_step (by repeat (first | exact Below.refl _ _ | apply below_drew1)) hd1⟩
  · have hz2 : ¬ ((m : Int) = 0) := by omega
    rw [decide_eq_false hz2, Bool.false_and]
    have hz3 : ((m : Int) == 0) = false := by rw [beq_eq_false_iff_ne]; exact hz2
    have hz4 : decide ((m : Int) = 0) = false := decide_eq_false hz2
    go_enter Try.func44, Try.ntmps44
    go_wp2
    go_quiet (fail)
    all_goals go_wp2
    all_goals go_ret
    all_goals exact ⟨by first | rfl | simp, pw_below_drewN (Below.refl _ _) _⟩

theorem cell_two (w : World) (x y : Value) (T : TypeId) : (w.alloc (.cells #[x, y] T)).cell? ⟨w.heap.size, 0, none⟩ = some x ∧ (w.alloc (.cells #[x, y] T)).cell? ⟨w.heap.size, 1, none⟩ = some y := ⟨by simp, by simp⟩
set_option maxHeartbeats 8000000 in
set_option maxRecDepth 100000 in
theorem impl_MakeTimes.calls (a0 : ByteArray) (a1 : Int) (r1 : ByteArray) (r2 : Bool) (w : World) (h : impl_MakeTimes.f a0 a1 = some (r1, r2)) :
    Calls Try.prog 22 #[.string a0, .int .i64 a1] w fun e w' => e = .returned (.tuple #[.string r1, .bool r2]) ∧ Below w.heap.size w w' := by
  unfold impl_MakeTimes.f at h
  split at h
  · rename_i hs
    simp only [Option.some.injEq] at h
    obtain ⟨x, y, hev, hxy⟩ := setOf_f a0 hs
    obtain ⟨k, hk⟩ := hev.rounds
    have hu := Try.underlying42
    have hin := in_f a1 0 20
    have hR : r1 = (tmr (chrs a0) a1).1 ∧ r2 = (tmr (chrs a0) a1).2 := by rw [h]; exact ⟨rfl, rfl⟩
    obtain ⟨rfl, rfl⟩ := hR
    clear h
    cases hp : (parse (chrs a0)).isSome with
    | false =>
      have e : tmr (chrs a0) a1 = (⟨#[]⟩, false) := by unfold tmr; rw [hp]; rfl
      rw [e]
      rw [hp] at hk
      have HK := fun w => Aside0.mk (impl_setOf.calls k a0 x y false w hk)
      clear hk hev hxy hp e
      go_enter Try.func22, Try.ntmps22
      go_wp2_with (go_at_call 31; refine (HK _).out.mono ?_; rintro e w1 ⟨v0_, v1_, rfl, hR0, hR1, hb1⟩; obtain ⟨A0, n0, rfl, hn0, hC0⟩ := Kd.R_reads hR0; obtain ⟨A1, n1, rfl, hn1, hC1⟩ := Kd.R_reads hR1; clear hR0 hR1 hC0 hC1 hn0 hn1; have HB := Aside0.mk (below_step (below_alloc (Below.refl w.heap.size w) _) hb1); clear hb1)
      go_ret2
      refine ⟨rfl, ?_⟩
      repeat (first | exact HB.out | apply below_alloc | (refine below_set ?_ HB.out.size))
    | true =>
      obtain ⟨⟨a, c⟩, hpp⟩ := Option.isSome_iff_exists.1 hp
      obtain ⟨rfl, rfl⟩ := hxy a c hpp
      have hb := parse_some hpp
      have hpos := List.length_pos_iff.2 hb.2.2
      rw [hp] at hk
      have HK := fun w => Aside0.mk (impl_setOf.calls k a0 x y true w hk)
      by_cases hm : 0 ≤ a1 ∧ a1 ≤ 20
      · rw [decide_eq_true hm] at hin
        have HI := fun w => Aside0.mk (impl_in.calls a1 0 20 _ w hin)
        obtain ⟨kk, rfl⟩ := Int.eq_ofNat_of_zero_le hm.1
        have e : tmr (chrs a0) (kk : Int) = txt (cn (tmq (hasB x y) kk)) := by
          unfold tmr; rw [hpp, setf_some hpp, decide_eq_true hm, Int.toNat_natCast]; rfl
        rw [e]
        have hkk : kk ≤ 20 := by omega
        have HL := Aside0.mk hb
        have HP := Aside0.mk hpos
        rcases Nat.eq_zero_or_pos kk with rfl | hk1
        · have hsum : IntKind.i64.wrap ((x.length : Int) + (y.length : Int)) = ((x.length + y.length : Nat) : Int) := by rw [IntKind.wrap_i64]; omega
          obtain ⟨k2, hk2⟩ := (setBelow_f x y hb.2.2 (by omega) (x.length + y.length) (by omega)).rounds
          have hany := any_below hpos (hasB_per x y)
          have eg : ∀ args w, (callFunc 43 args).run Try.prog w = .ok (.enter 43 args) w := enters_of Try.func43 (by kernel_rfl) rfl
          have HM := fun (lb : Array Value) (w : World) => Aside0.mk (made_calls (tmq (hasB x y) 0) 1 1 (by omega) (tmq_per0 _) (by omega) 43 lb w eg)
          have HA := Aside0.mk hany
          generalize blw (hasB x y) (x.length + y.length) = bl at *
          clear hb hp hpp hk hev hxy e hin hm hkk hpos hany eg
          go_enter Try.func22, Try.ntmps22
          go_wp2_with (first
            | (go_at_call 31; refine (HK _).out.mono ?_; rintro e w1 ⟨v0_, v1_, rfl, hR0, hR1, hb1⟩; obtain ⟨A0, n0, rfl, hn0, hC0⟩ := Kd.R_reads hR0; obtain ⟨A1, n1, rfl, hn1, hC1⟩ := Kd.R_reads hR1; have C0 := Aside0.mk hC0; have C1 := Aside0.mk hC1; have N0 := Aside0.mk hn0; have N1 := Aside0.mk hn1; clear hR0 hR1 hC0 hC1 hn0 hn1; have HB := Aside0.mk (below_step (below_alloc (Below.refl w.heap.size w) _) hb1); have f0 : w1.cell? ⟨w.heap.size, 0, none⟩ = some (.int .i64 ((0 : Nat) : Int)) := (hb1.cell (p := ⟨w.heap.size, 0, none⟩) (by simp)).trans (by simp); have l0 : w.heap.size < w1.heap.size := Nat.lt_of_lt_of_le (by simp) hb1.size; clear hb1)
            | (go_at_call 40; refine (HI _).out.mono ?_; rintro e w2 ⟨rfl, hd⟩; have hb2 := drawn0_below hd; have c0 : w2.cell? ⟨w.heap.size, 0, none⟩ = some (.int .i64 ((0 : Nat) : Int)) := (hb2.cell (p := ⟨w.heap.size, 0, none⟩) (by simp; omega)).trans (Lib.cell?_alloc_some _ f0); have c1 := (hb2.cell (p := ⟨w1.heap.size, 0, none⟩) (by simp)).trans (cell_two w1 (.slice A0 x.length n0) (.slice A1 y.length n1) _).1; have c2 := (hb2.cell (p := ⟨w1.heap.size, 1, none⟩) (by simp)).trans (cell_two w1 (.slice A0 x.length n0) (.slice A1 y.length n1) _).2; have HB2 := Aside0.mk (below_step (below_alloc (Below.refl w1.heap.size w1) _) hb2); clear hd hb2)
            | (go_at_call 41; refine (impl_set_below.calls k2 A0 n0 x A1 n1 y _ bl w2 (Kd.C_below C0.out HB2.out) N0.out (Kd.C_below C1.out HB2.out) N1.out hk2).mono ?_; rintro e w3 ⟨v2_, rfl, hR2, hb3⟩; obtain ⟨A2, n2, rfl, hn2, hC2⟩ := Kd.R_reads hR2; have HB3 := Aside0.mk hb3; clear hR2 hC2 hn2 hb3)
            | (go_at_call 42; refine ((HM _ _).out ?hc).mono ?_; (case hc =>
                intro W i hW hi
                have := times1_q_calls i w3.heap.size (decide ((bl.length : Int) > 0)) W ((hW.cell (p := ⟨w3.heap.size, 0, none⟩) (by simp)).trans (by simp))
                rw [HA.out] at this
                rw [tmq_zero]
                exact this); rintro e w4 ⟨rfl, hb4⟩))
          go_ret2
          exact ⟨rfl, below_step (below_alloc (below_step (below_step HB.out HB2.out) HB3.out) _) hb4⟩
        · have hz : ¬ ((kk : Int) = 0) := by omega
          have hm1 : kk * x.length ≤ 20 * 60 := Nat.mul_le_mul hkk hb.1
          have hm2 : kk * y.length ≤ 20 * 60 := Nat.mul_le_mul hkk hb.2.1
          have e1 : IntKind.i64.wrap ((kk : Int) * (x.length : Int)) = ((kk * x.length : Nat) : Int) := by rw [IntKind.wrap_i64, ← Int.natCast_mul]; generalize kk * x.length = q at *; omega
          have e2 : IntKind.i64.wrap ((kk : Int) * (y.length : Int)) = ((kk * y.length : Nat) : Int) := by rw [IntKind.wrap_i64, ← Int.natCast_mul]; generalize kk * y.length = q at *; omega
          have eg : ∀ args w, (callFunc 44 args).run Try.prog w = .ok (.enter 44 args) w := enters_of Try.func44 (by kernel_rfl) rfl
          have HM := fun (lb : Array Value) (w : World) => Aside0.mk (made_calls (tmq (hasB x y) kk) (kk * x.length) (kk * y.length) (Nat.mul_pos hk1 hpos) (tmq_per (hasB_per x y) hk1) (by clear e1 e2; omega) 44 lb w eg)
          have HN := Aside0.mk (show kk * x.length + kk * y.length ≤ 2400 by clear e1 e2; omega)
          have H1 := Aside0.mk hk1
          have H2 := Aside0.mk hkk
          generalize kk * x.length = X at *
          generalize kk * y.length = Y at *
          clear hb hp hpp hk hev hxy e hin hm hkk hpos hm1 hm2 eg
          go_enter Try.func22, Try.ntmps22
          go_wp2_with (first
            | (go_at_call 31; refine (HK _).out.mono ?_; rintro e w1 ⟨v0_, v1_, rfl, hR0, hR1, hb1⟩; obtain ⟨A0, n0, rfl, hn0, hC0⟩ := Kd.R_reads hR0; obtain ⟨A1, n1, rfl, hn1, hC1⟩ := Kd.R_reads hR1; have C0 := Aside0.mk hC0; have C1 := Aside0.mk hC1; have N0 := Aside0.mk hn0; have N1 := Aside0.mk hn1; clear hR0 hR1 hC0 hC1 hn0 hn1; have HB := Aside0.mk (below_step (below_alloc (Below.refl w.heap.size w) _) hb1); have f0 : w1.cell? ⟨w.heap.size, 0, none⟩ = some (.int .i64 (kk : Int)) := (hb1.cell (p := ⟨w.heap.size, 0, none⟩) (by simp)).trans (by simp); have l0 : w.heap.size < w1.heap.size := Nat.lt_of_lt_of_le (by simp) hb1.size; clear hb1)
            | (go_at_call 40; refine (HI _).out.mono ?_; rintro e w2 ⟨rfl, hd⟩; have hb2 := drawn0_below hd; have c0 : w2.cell? ⟨w.heap.size, 0, none⟩ = some (.int .i64 (kk : Int)) := (hb2.cell (p := ⟨w.heap.size, 0, none⟩) (by simp; omega)).trans (Lib.cell?_alloc_some _ f0); have c1 := (hb2.cell (p := ⟨w1.heap.size, 0, none⟩) (by simp)).trans (cell_two w1 (.slice A0 x.length n0) (.slice A1 y.length n1) _).1; have c2 := (hb2.cell (p := ⟨w1.heap.size, 1, none⟩) (by simp)).trans (cell_two w1 (.slice A0 x.length n0) (.slice A1 y.length n1) _).2; have hl2 : w1.heap.size < w2.heap.size := Nat.lt_of_lt_of_le (by simp) hb2.size; have HB2 := Aside0.mk (below_step (below_alloc (Below.refl w1.heap.size w1) _) hb2); clear hd hb2)
            | (go_at_call 42; refine ((HM _ _).out ?hc).mono ?_; (case hc =>
                intro W i hW hi
                have hq := HL.out
                have hBW := below_step HB2.out hW
                have hn := HN.out
                have h1 := H1.out
                have h2 := H2.out
                rw [tmq_pos _ h1]
                exact times2_q_calls x y hq.2.2 ⟨hq.1, hq.2.1⟩ A0 n0 A1 n1 i kk w.heap.size w1.heap.size (by omega) h1 (by omega) W (Kd.C_below C0.out hBW) N0.out (Kd.C_below C1.out hBW) N1.out ((hW.cell (p := ⟨w.heap.size, 0, none⟩) (by show w.heap.size < w2.heap.size; omega)).trans c0) ((hW.cell (p := ⟨w1.heap.size, 0, none⟩) hl2).trans c1) ((hW.cell (p := ⟨w1.heap.size, 1, none⟩) hl2).trans c2)); rintro e w4 ⟨rfl, hb4⟩))
          go_ret2
          exact ⟨rfl, below_step (below_step HB.out HB2.out) hb4⟩
      · rw [decide_eq_false hm] at hin
        have HI := fun w => Aside0.mk (impl_in.calls a1 0 20 _ w hin)
        have e : tmr (chrs a0) a1 = (⟨#[]⟩, false) := by unfold tmr; rw [decide_eq_false hm, Bool.and_false]; rfl
        rw [e]
        clear hb hp hpp hk hev hxy e hin hm hpos
        go_enter Try.func22, Try.ntmps22
        go_wp2_with (first
          | (go_at_call 31; refine (HK _).out.mono ?_; rintro e w1 ⟨v0_, v1_, rfl, hR0, hR1, hb1⟩; obtain ⟨A0, n0, rfl, hn0, hC0⟩ := Kd.R_reads hR0; obtain ⟨A1, n1, rfl, hn1, hC1⟩ := Kd.R_reads hR1; clear hR0 hR1 hC0 hC1 hn0 hn1; have HB := Aside0.mk (below_step (below_alloc (Below.refl w.heap.size w) _) hb1); have f0 : w1.cell? ⟨w.heap.size, 0, none⟩ = some (.int .i64 a1) := (hb1.cell (p := ⟨w.heap.size, 0, none⟩) (by simp)).trans (by simp); have l0 : w.heap.size < w1.heap.size := Nat.lt_of_lt_of_le (by simp) hb1.size; clear hb1)
          | (go_at_call 40; refine (HI _).out.mono ?_; rintro e w2 ⟨rfl, hd⟩; have HB2 := Aside0.mk (below_step (below_alloc (Below.refl w1.heap.size w1) _) (drawn0_below hd)); clear hd))
        go_ret2
        exact ⟨rfl, below_step HB.out HB2.out⟩
  · cases h
end Go.Proofs.Ytfoolgjofinmlaa.P

namespace Go.Proofs.Ytfoolgjofinmlaa.P
open Go.RowKit Go.Proofs.YtfoolgjofinmlaaW.PrintWords Go.Proofs.YtfoolgjofinmlaaW.PrintLast Go.Proofs.YtfoolgjofinmlaaW.PrintMore
attribute [local go_sem] max2_int min2_int max_two min_two max_three min_three max_four min_four   -- for this text's walks alone
set_option linter.unusedVariables false
set_option linter.unusedSimpArgs false

/-! ### laws_FnMakeTimesOver: function 8 -/
noncomputable def laws_FnMakeTimesOver.j0 : Nat → ByteArray → Int → ByteArray → Bool → ByteArray → Bool → Bool → Option (Bool)
  | 0, _, _, _, _, _, _, _ => none
  | k + 1, x3, x4, x5, x6, x7, x8, x50 => if x50 = true then (if x5.toList = x7.toList then (some (x6 == x8)) else (some false)) else ((impl_MakeOver.f x5 x4).bind fun bt525 => ((impl_MakeEvery.f x5 x4 0).bind fun bt527 => ((impl_SetTidy.f k x3).bind fun bt529 => (if bt529.2 = true then (if bt525.2 = true then (if bt525.1.toList = bt529.1.toList then (if bt527.2 = true then (some (bt527.1.toList == bt529.1.toList)) else (some true)) else (some false)) else (if bt527.2 = true then (some (bt527.1.toList == bt529.1.toList)) else (some true))) else (some false)))))
noncomputable def laws_FnMakeTimesOver.f (k : Nat) (l0 : List Int) : Option (Bool) := if (l0.length : Int) > 1048576 then (some true) else ((spec_DrawMakeTimes.f k l0).bind fun bt519 => ((impl_MakeTimes.f bt519.1 bt519.2).bind fun bt521 => ((spec_MakeTimes.f k bt519.1 bt519.2).bind fun bt523 => (if bt521.1.toList = bt523.1.toList then (if (bt521.2 != bt523.2) = true then (laws_FnMakeTimesOver.j0 k bt519.1 bt519.2 bt521.1 bt521.2 bt523.1 bt523.2 true) else (if bt521.2 = true then (laws_FnMakeTimesOver.j0 k bt519.1 bt519.2 bt521.1 bt521.2 bt523.1 bt523.2 (decide (bt519.2 < 1))) else (laws_FnMakeTimesOver.j0 k bt519.1 bt519.2 bt521.1 bt521.2 bt523.1 bt523.2 true))) else (laws_FnMakeTimesOver.j0 k bt519.1 bt519.2 bt521.1 bt521.2 bt523.1 bt523.2 true)))))
theorem laws_FnMakeTimesOver.mono_l : ∀ k, (∀ y0 y1 y2 y3 y4 y5 y6, LeO (laws_FnMakeTimesOver.j0 k y0 y1 y2 y3 y4 y5 y6) (laws_FnMakeTimesOver.j0 (k + 1) y0 y1 y2 y3 y4 y5 y6))
  | 0 => fun _ _ _ _ _ _ _ r h => by simp [laws_FnMakeTimesOver.j0] at h
  | k + 1 => by
    have ih0 := laws_FnMakeTimesOver.mono_l k
    · intro y0 y1 y2 y3 y4 y5 y6
      unfold laws_FnMakeTimesOver.j0
      repeat' first
      | (with_reducible exact ih0 _ _ _ _ _ _ _)
      | (with_reducible exact impl_SetTidy.mono _ _)
      | (with_reducible exact spec_DrawMakeTimes.mono _ _)
      | (with_reducible exact spec_MakeTimes.mono _ _ _)
      | (with_reducible exact LeO.refl _)
      | (with_reducible exact LeO.none _)
      | (with_reducible refine LeO.ite ?_ ?_)
      | (with_reducible refine LeO.bind ?_ (fun _ => ?_))
      | exact ih0 _ _ _ _ _ _ _
      | exact impl_SetTidy.mono _ _
      | exact spec_DrawMakeTimes.mono _ _
      | exact spec_MakeTimes.mono _ _ _
      | exact LeO.none _
      | refine LeO.ite ?_ ?_
      | refine LeO.bind ?_ (fun _ => ?_)
theorem laws_FnMakeTimesOver.mono : ∀ a0 k, LeO (laws_FnMakeTimesOver.f k a0) (laws_FnMakeTimesOver.f (k + 1) a0) := by
  intro a0 k
  have ih0 := laws_FnMakeTimesOver.mono_l k
  unfold laws_FnMakeTimesOver.f
  repeat' first
      | (with_reducible exact ih0 _ _ _ _ _ _ _)
      | (with_reducible exact impl_SetTidy.mono _ _)
      | (with_reducible exact spec_DrawMakeTimes.mono _ _)
      | (with_reducible exact spec_MakeTimes.mono _ _ _)
      | (with_reducible exact LeO.refl _)
      | (with_reducible exact LeO.none _)
      | (with_reducible refine LeO.ite ?_ ?_)
      | (with_reducible refine LeO.bind ?_ (fun _ => ?_))
      | exact ih0 _ _ _ _ _ _ _
      | exact impl_SetTidy.mono _ _
      | exact spec_DrawMakeTimes.mono _ _
      | exact spec_MakeTimes.mono _ _ _
      | exact LeO.none _
      | refine LeO.ite ?_ ?_
      | refine LeO.bind ?_ (fun _ => ?_)
set_option maxHeartbeats 8000000 in
set_option maxRecDepth 100000 in
theorem laws_FnMakeTimesOver.calls (k : Nat) (A0 : Option Addr) (c0 : Nat) (l0 : List Int) (r : Bool) (w : World) (hr0 : Kd.C (Kd.int .u8) w A0 l0.length l0) (hc0 : l0.length ≤ c0) (h : laws_FnMakeTimesOver.f k l0 = some r) :
    Calls Try.prog 8 #[.slice A0 l0.length c0] w fun e w' => e = .returned (.bool r) ∧ Below w.heap.size w w' := by
  have HR0 := Aside0.mk hr0
  have HC0 := Aside0.mk hc0
  clear hr0 hc0
  have HB := Aside0.mk (Below.refl w.heap.size w)
  have H : (if (l0.length : Int) > 1048576 then (some true) else ((spec_DrawMakeTimes.f k l0).bind fun bt519 => ((impl_MakeTimes.f bt519.1 bt519.2).bind fun bt521 => ((spec_MakeTimes.f k bt519.1 bt519.2).bind fun bt523 => (if bt521.1.toList = bt523.1.toList then (if (bt521.2 != bt523.2) = true then (laws_FnMakeTimesOver.j0 k bt519.1 bt519.2 bt521.1 bt521.2 bt523.1 bt523.2 true) else (if bt521.2 = true then (laws_FnMakeTimesOver.j0 k bt519.1 bt519.2 bt521.1 bt521.2 bt523.1 bt523.2 (decide (bt519.2 < 1))) else (laws_FnMakeTimesOver.j0 k bt519.1 bt519.2 bt521.1 bt521.2 bt523.1 bt523.2 true))) else (laws_FnMakeTimesOver.j0 k bt519.1 bt519.2 bt521.1 bt521.2 bt523.1 bt523.2 true)))))) = some r := h
  clear h
  by_cases c2 : (l0.length : Int) > 1048576
  · rw [if_pos c2] at H
    have c2b0 : decide (1048576 < (l0.length : Int)) = true := decide_eq_true c2
    have c2b1 : decide (1048576 < l0.length) = true := decide_eq_true (by omega)
    clear c2
    obtain rfl := Option.some.inj H
    go_enter Try.func8, Try.ntmps8
    go_wp2
    go_ret
    exact ⟨by first | rfl | (simp [errW_none, errW_some] <;> rfl) | (simp [*, errW_none, errW_some] <;> rfl) | (simp [errW_none, errW_some]; exact ⟨rfl, rfl⟩), by repeat (first | (with_reducible first | exact HB.out | apply below_alloc | apply pw_below_drewN | apply below_drew1) | exact HB.out)⟩
  · rw [if_neg c2] at H
    have c2b0 : decide (1048576 < (l0.length : Int)) = false := decide_eq_false c2
    have c2b1 : decide (1048576 < l0.length) = false := decide_eq_false (by omega)
    clear c2
    replace H := Option.bind_eq_some_iff.mp H
    obtain ⟨⟨t519, t520⟩, A30, H⟩ := H
    replace H : ((impl_MakeTimes.f t519 t520).bind fun bt521 => ((spec_MakeTimes.f k t519 t520).bind fun bt523 => (if bt521.1.toList = bt523.1.toList then (if (bt521.2 != bt523.2) = true then (laws_FnMakeTimesOver.j0 k t519 t520 bt521.1 bt521.2 bt523.1 bt523.2 true) else (if bt521.2 = true then (laws_FnMakeTimesOver.j0 k t519 t520 bt521.1 bt521.2 bt523.1 bt523.2 (decide (t520 < 1))) else (laws_FnMakeTimesOver.j0 k t519 t520 bt521.1 bt521.2 bt523.1 bt523.2 true))) else (laws_FnMakeTimesOver.j0 k t519 t520 bt521.1 bt521.2 bt523.1 bt523.2 true)))) = some r := H
    have A3 := Aside0.mk A30
    clear A30
    replace H := Option.bind_eq_some_iff.mp H
    obtain ⟨⟨t521, t522⟩, A40, H⟩ := H
    replace H : ((spec_MakeTimes.f k t519 t520).bind fun bt523 => (if t521.toList = bt523.1.toList then (if (t522 != bt523.2) = true then (laws_FnMakeTimesOver.j0 k t519 t520 t521 t522 bt523.1 bt523.2 true) else (if t522 = true then (laws_FnMakeTimesOver.j0 k t519 t520 t521 t522 bt523.1 bt523.2 (decide (t520 < 1))) else (laws_FnMakeTimesOver.j0 k t519 t520 t521 t522 bt523.1 bt523.2 true))) else (laws_FnMakeTimesOver.j0 k t519 t520 t521 t522 bt523.1 bt523.2 true))) = some r := H
    have A4 := Aside0.mk A40
    clear A40
    replace H := Option.bind_eq_some_iff.mp H
    obtain ⟨⟨t523, t524⟩, A50, H⟩ := H
    replace H : (if t521.toList = t523.toList then (if (t522 != t524) = true then (laws_FnMakeTimesOver.j0 k t519 t520 t521 t522 t523 t524 true) else (if t522 = true then (laws_FnMakeTimesOver.j0 k t519 t520 t521 t522 t523 t524 (decide (t520 < 1))) else (laws_FnMakeTimesOver.j0 k t519 t520 t521 t522 t523 t524 true))) else (laws_FnMakeTimesOver.j0 k t519 t520 t521 t522 t523 t524 true)) = some r := H
    have A5 := Aside0.mk A50
    clear A50
    have HC6 := Aside0.mk H
    clear H
    go_enter Try.func8, Try.ntmps8
    go_upto_region 6 with (first | ((with_reducible refine gate_callee (f := 21) rfl ?_); refine goesL_ (some 20) rfl rfl Try.func21 (by kernel_rfl) rfl #[.slice A0 l0.length c0] rfl (by (try simp only [List.map_toArray, List.map_cons, List.map_nil]); first | done | rfl | (simp only [List.length_drop, List.length_take]; rfl)) ?_; (with_reducible refine (spec_DrawMakeTimes.calls k _ _ l0 t519 t520 _ ?side1 ?side2 A3.out).mono ?_); (case side1 => repeat (first | exact HR0.out | (with_reducible refine Kd.C_alloc ?_ _) | (with_reducible refine Kd.C_drewN ?_ _) | (with_reducible refine Kd.C_drew ?_))); (case side2 => exact HC0.out); rintro e w7 ⟨rfl, hb⟩; refine ⟨_, rfl, ?_⟩; have n0_ := Aside0.mk (below_step (by repeat (first | (with_reducible first | exact HB.out | apply below_alloc | apply pw_below_drewN | apply below_drew1) | exact HB.out)) hb); clear HB; have HB := n0_; clear n0_; (try clear hb); (try clear hb2); (try clear hk); (try clear hi)) | ((with_reducible refine gate_callee (f := 22) rfl ?_); refine goesL_ (some 26) rfl rfl Try.func22 (by kernel_rfl) rfl #[.string t519, .int .i64 t520] rfl (by (try simp only [List.map_toArray, List.map_cons, List.map_nil]); first | done | rfl | (simp only [List.length_drop, List.length_take]; rfl)) ?_; (with_reducible refine (impl_MakeTimes.calls t519 t520 t521 t522 _ A4.out).mono ?_); rintro e w8 ⟨rfl, hb⟩; refine ⟨_, rfl, ?_⟩; have n0_ := Aside0.mk (below_step (by repeat (first | (with_reducible first | exact HB.out | apply below_alloc | apply pw_below_drewN | apply below_drew1) | exact HB.out)) hb); clear HB; have HB := n0_; clear n0_; (try clear hb); (try clear hb2); (try clear hk); (try clear hi)) | ((with_reducible refine gate_callee (f := 23) rfl ?_); refine goesL_ (some 32) rfl rfl Try.func23 (by kernel_rfl) rfl #[.string t519, .int .i64 t520] rfl (by (try simp only [List.map_toArray, List.map_cons, List.map_nil]); first | done | rfl | (simp only [List.length_drop, List.length_take]; rfl)) ?_; (with_reducible refine (spec_MakeTimes.calls k t519 t520 t523 t524 _ A5.out).mono ?_); rintro e w9 ⟨rfl, hb⟩; refine ⟨_, rfl, ?_⟩; have n0_ := Aside0.mk (below_step (by repeat (first | (with_reducible first | exact HB.out | apply below_alloc | apply pw_below_drewN | apply below_drew1) | exact HB.out)) hb); clear HB; have HB := n0_; clear n0_; (try clear hb); (try clear hb2); (try clear hk); (try clear hi)))
    (try simp only [Act.put, List.setIfInBounds_toArray, List.set_cons_zero, List.set_cons_succ])
    go_cut [50] (fun v50 wc => ∃ (kq : Nat) (x50_5 : Bool), v50 = .bool x50_5 ∧ Aside0 (laws_FnMakeTimesOver.j0 kq t519 t520 t521 t522 t523 t524 x50_5 = some r) ∧ Aside0 (kq ≤ k) ∧ Aside0 (Below w.heap.size w wc))
    case first =>
      have H := HC6.out
      clear HC6
      by_cases c10 : t521.toList = t523.toList
      · rw [if_pos c10] at H
        have c10b0 : (t521.toList == t523.toList) = true := beq_iff_eq.mpr c10
        have c10b1 : (t521.toList != t523.toList) = false := bne_eq_false_iff_eq.mpr c10
        clear c10
        (first | rw [c10b0] | (simp only [i64_w, i32_w]; rw [c10b0]) | skip)
        by_cases c11 : (t522 != t524) = true
        · rw [if_pos c11] at H
          have c11b0 : (t522 != t524) = true := c11
          (try (have c11b1 : decide (t522 = t524) = false := by simpa using c11))
          (try (have c11b2 : (t522 == t524) = false := by simpa using c11))
          (try (have c11b3 : ¬ (t522 = t524) := by simpa using c11))
          clear c11
          have H' := Aside0.mk H
          clear H
          go_wp2
          go_meet
          case rel => exact ⟨_, (true), (by first | rfl | (simp; done) | (simp [*]; done) | (simp [Int.tmod_eq_emod_of_nonneg]; done)), H', ⟨by first | omega | exact Nat.le_refl _⟩, ⟨by repeat (first | (with_reducible first | exact HB.out | apply below_alloc | apply pw_below_drewN | apply below_drew1) | exact HB.out)⟩⟩
        · rw [if_neg c11] at H
          have c11b0 : (t522 != t524) = false := by simpa using c11
          (try (have c11b1 : decide (t522 = t524) = true := by simpa using c11))
          (try (have c11b2 : (t522 == t524) = true := by simpa using c11))
          clear c11
          by_cases c12 : t522 = true
          · subst c12
            have H1 : (laws_FnMakeTimesOver.j0 k t519 t520 t521 true t523 t524 (decide (t520 < 1))) = some r := by rw [if_pos rfl] at H; exact H
            clear H
            have H := H1
            clear H1
            have H' := Aside0.mk H
            clear H
            go_wp2
            go_meet
            case rel => exact ⟨_, (decide (t520 < 1)), (by first | rfl | (simp; done) | (simp [*]; done) | (simp [Int.tmod_eq_emod_of_nonneg]; done)), H', ⟨by first | omega | exact Nat.le_refl _⟩, ⟨by repeat (first | (with_reducible first | exact HB.out | apply below_alloc | apply pw_below_drewN | apply below_drew1) | exact HB.out)⟩⟩
          · replace c12 := Bool.eq_false_iff.mpr c12
            subst c12
            have H1 : (laws_FnMakeTimesOver.j0 k t519 t520 t521 false t523 t524 true) = some r := by rw [if_neg (show ¬ (false = true) by decide)] at H; exact H
            clear H
            have H := H1
            clear H1
            have H' := Aside0.mk H
            clear H
            go_wp2
            go_meet
            case rel => exact ⟨_, (true), (by first | rfl | (simp; done) | (simp [*]; done) | (simp [Int.tmod_eq_emod_of_nonneg]; done)), H', ⟨by first | omega | exact Nat.le_refl _⟩, ⟨by repeat (first | (with_reducible first | exact HB.out | apply below_alloc | apply pw_below_drewN | apply below_drew1) | exact HB.out)⟩⟩
      · rw [if_neg c10] at H
        have c10b0 : (t521.toList == t523.toList) = false := beq_eq_false_iff_ne.mpr c10
        have c10b1 : (t521.toList != t523.toList) = true := bne_iff_ne.mpr c10
        (first | rw [c10b0] | (simp only [i64_w, i32_w]; rw [c10b0]) | skip)
        have H' := Aside0.mk H
        clear H
        go_wp2
        go_meet
        case rel => exact ⟨_, (true), (by first | rfl | (simp; done) | (simp [*]; done) | (simp [Int.tmod_eq_emod_of_nonneg]; done)), H', ⟨by first | omega | exact Nat.le_refl _⟩, ⟨by repeat (first | (with_reducible first | exact HB.out | apply below_alloc | apply pw_below_drewN | apply below_drew1) | exact HB.out)⟩⟩
    case rest =>
      clear HC6
      try clear c1
      try clear c2
      try clear c2b0
      try clear c2b1
      try clear p2
      try clear c8
      try clear c10
      try clear c10b0
      try clear c10b1
      try clear c11
      try clear c11b0
      try clear c11b1
      try clear c11b2
      try clear c12
      obtain ⟨kq, x50_5, rfl, HA, HJ5, HB⟩ := hcut
      cases kq with
      | zero => exact absurd HA.out (by simp [laws_FnMakeTimesOver.j0])
      | succ kj5 =>
        have H := HA.out
        clear HA
        simp only [laws_FnMakeTimesOver.j0] at H
        by_cases c13 : x50_5 = true
        · subst c13
          have H1 : (if t521.toList = t523.toList then (some (t522 == t524)) else (some false)) = some r := by rw [if_pos rfl] at H; exact H
          clear H
          have H := H1
          clear H1
          by_cases c14 : t521.toList = t523.toList
          · rw [if_pos c14] at H
            have c14b0 : (t521.toList == t523.toList) = true := beq_iff_eq.mpr c14
            have c14b1 : (t521.toList != t523.toList) = false := bne_eq_false_iff_eq.mpr c14
            clear c14
            obtain rfl := Option.some.inj H
            go_wp2
            go_ret
            exact ⟨by first | rfl | (simp [errW_none, errW_some] <;> rfl) | (simp [*, errW_none, errW_some] <;> rfl) | (simp [errW_none, errW_some]; exact ⟨rfl, rfl⟩), by repeat (first | (with_reducible first | exact HB.out | apply below_alloc | apply pw_below_drewN | apply below_drew1) | exact HB.out)⟩
          · rw [if_neg c14] at H
            have c14b0 : (t521.toList == t523.toList) = false := beq_eq_false_iff_ne.mpr c14
            have c14b1 : (t521.toList != t523.toList) = true := bne_iff_ne.mpr c14
            obtain rfl := Option.some.inj H
            go_wp2
            go_ret
            exact ⟨by first | rfl | (simp [errW_none, errW_some] <;> rfl) | (simp [*, errW_none, errW_some] <;> rfl) | (simp [errW_none, errW_some]; exact ⟨rfl, rfl⟩), by repeat (first | (with_reducible first | exact HB.out | apply below_alloc | apply pw_below_drewN | apply below_drew1) | exact HB.out)⟩
        · replace c13 := Bool.eq_false_iff.mpr c13
          subst c13
          have H1 : ((impl_MakeOver.f t521 t520).bind fun bt525 => ((impl_MakeEvery.f t521 t520 0).bind fun bt527 => ((impl_SetTidy.f kj5 t519).bind fun bt529 => (if bt529.2 = true then (if bt525.2 = true then (if bt525.1.toList = bt529.1.toList then (if bt527.2 = true then (some (bt527.1.toList == bt529.1.toList)) else (some true)) else (some false)) else (if bt527.2 = true then (some (bt527.1.toList == bt529.1.toList)) else (some true))) else (some false))))) = some r := by rw [if_neg (show ¬ (false = true) by decide)] at H; exact H
          clear H
          have H := H1
          clear H1
          replace H := Option.bind_eq_some_iff.mp H
          obtain ⟨⟨t525, t526⟩, A150, H⟩ := H
          replace H : ((impl_MakeEvery.f t521 t520 0).bind fun bt527 => ((impl_SetTidy.f kj5 t519).bind fun bt529 => (if bt529.2 = true then (if t526 = true then (if t525.toList = bt529.1.toList then (if bt527.2 = true then (some (bt527.1.toList == bt529.1.toList)) else (some true)) else (some false)) else (if bt527.2 = true then (some (bt527.1.toList == bt529.1.toList)) else (some true))) else (some false)))) = some r := H
          have A15 := Aside0.mk A150
          clear A150
          replace H := Option.bind_eq_some_iff.mp H
          obtain ⟨⟨t527, t528⟩, A160, H⟩ := H
          replace H : ((impl_SetTidy.f kj5 t519).bind fun bt529 => (if bt529.2 = true then (if t526 = true then (if t525.toList = bt529.1.toList then (if t528 = true then (some (t527.toList == bt529.1.toList)) else (some true)) else (some false)) else (if t528 = true then (some (t527.toList == bt529.1.toList)) else (some true))) else (some false))) = some r := H
          have A16 := Aside0.mk A160
          clear A160
          replace H := Option.bind_eq_some_iff.mp H
          obtain ⟨⟨t529, t530⟩, A170, H⟩ := H
          replace H : (if t530 = true then (if t526 = true then (if t525.toList = t529.toList then (if t528 = true then (some (t527.toList == t529.toList)) else (some true)) else (some false)) else (if t528 = true then (some (t527.toList == t529.toList)) else (some true))) else (some false)) = some r := H
          have A17 := Aside0.mk A170
          clear A170
          by_cases c18 : t530 = true
          · subst c18
            have H1 : (if t526 = true then (if t525.toList = t529.toList then (if t528 = true then (some (t527.toList == t529.toList)) else (some true)) else (some false)) else (if t528 = true then (some (t527.toList == t529.toList)) else (some true))) = some r := by rw [if_pos rfl] at H; exact H
            clear H
            have H := H1
            clear H1
            by_cases c19 : t526 = true
            · subst c19
              have H1 : (if t525.toList = t529.toList then (if t528 = true then (some (t527.toList == t529.toList)) else (some true)) else (some false)) = some r := by rw [if_pos rfl] at H; exact H
              clear H
              have H := H1
              clear H1
              by_cases c20 : t525.toList = t529.toList
              · rw [if_pos c20] at H
                have c20b0 : (t525.toList == t529.toList) = true := beq_iff_eq.mpr c20
                have c20b1 : (t525.toList != t529.toList) = false := bne_eq_false_iff_eq.mpr c20
                clear c20
                by_cases c21 : t528 = true
                · subst c21
                  have H1 : (some (t527.toList == t529.toList)) = some r := by rw [if_pos rfl] at H; exact H
                  clear H
                  have H := H1
                  clear H1
                  obtain rfl := Option.some.inj H
                  go_wp2_with (first | ((with_reducible refine gate_callee (f := 24) rfl ?_); refine goesL_ (some 62) rfl rfl Try.func24 (by kernel_rfl) rfl #[.string t521, .int .i64 t520] rfl (by (try simp only [List.map_toArray, List.map_cons, List.map_nil]); first | done | rfl | (simp only [List.length_drop, List.length_take]; rfl)) ?_; (with_reducible refine (impl_MakeOver.calls t521 t520 t525 true _ A15.out).mono ?_); rintro e w22 ⟨rfl, hb⟩; refine ⟨_, rfl, ?_⟩; have n0_ := Aside0.mk (below_step (by repeat (first | (with_reducible first | exact HB.out | apply below_alloc | apply pw_below_drewN | apply below_drew1) | exact HB.out)) hb); clear HB; have HB := n0_; clear n0_; (try clear hb); (try clear hb2); (try clear hk); (try clear hi)) | ((with_reducible refine gate_callee (f := 25) rfl ?_); refine goesL_ (some 68) rfl rfl Try.func25 (by kernel_rfl) rfl #[.string t521, .int .i64 t520, .int .i64 0] rfl (by (try simp only [List.map_toArray, List.map_cons, List.map_nil]); first | done | rfl | (simp only [List.length_drop, List.length_take]; rfl)) ?_; (with_reducible refine (impl_MakeEvery.calls t521 t520 0 t527 true _ A16.out).mono ?_); rintro e w23 ⟨rfl, hb⟩; refine ⟨_, rfl, ?_⟩; have n0_ := Aside0.mk (below_step (by repeat (first | (with_reducible first | exact HB.out | apply below_alloc | apply pw_below_drewN | apply below_drew1) | exact HB.out)) hb); clear HB; have HB := n0_; clear n0_; (try clear hb); (try clear hb2); (try clear hk); (try clear hi)) | ((with_reducible refine gate_callee (f := 13) rfl ?_); refine goesL_ (some 73) rfl rfl Try.func13 (by kernel_rfl) rfl #[.string t519] rfl (by (try simp only [List.map_toArray, List.map_cons, List.map_nil]); first | done | rfl | (simp only [List.length_drop, List.length_take]; rfl)) ?_; (with_reducible refine (impl_SetTidy.calls kj5 t519 t529 true _ A17.out).mono ?_); rintro e w24 ⟨rfl, hb⟩; refine ⟨_, rfl, ?_⟩; have n0_ := Aside0.mk (below_step (by repeat (first | (with_reducible first | exact HB.out | apply below_alloc | apply pw_below_drewN | apply below_drew1) | exact HB.out)) hb); clear HB; have HB := n0_; clear n0_; (try clear hb); (try clear hb2); (try clear hk); (try clear hi)))
                  go_ret
                  exact ⟨by first | rfl | (simp [errW_none, errW_some] <;> rfl) | (simp [*, errW_none, errW_some] <;> rfl) | (simp [errW_none, errW_some]; exact ⟨rfl, rfl⟩), by repeat (first | (with_reducible first | exact HB.out | apply below_alloc | apply pw_below_drewN | apply below_drew1) | exact HB.out)⟩
                · replace c21 := Bool.eq_false_iff.mpr c21
                  subst c21
                  have H1 : (some true) = some r := by rw [if_neg (show ¬ (false = true) by decide)] at H; exact H
                  clear H
                  have H := H1
                  clear H1
                  obtain rfl := Option.some.inj H
                  go_wp2_with (first | ((with_reducible refine gate_callee (f := 24) rfl ?_); refine goesL_ (some 62) rfl rfl Try.func24 (by kernel_rfl) rfl #[.string t521, .int .i64 t520] rfl (by (try simp only [List.map_toArray, List.map_cons, List.map_nil]); first | done | rfl | (simp only [List.length_drop, List.length_take]; rfl)) ?_; (with_reducible refine (impl_MakeOver.calls t521 t520 t525 true _ A15.out).mono ?_); rintro e w25 ⟨rfl, hb⟩; refine ⟨_, rfl, ?_⟩; have n0_ := Aside0.mk (below_step (by repeat (first | (with_reducible first | exact HB.out | apply below_alloc | apply pw_below_drewN | apply below_drew1) | exact HB.out)) hb); clear HB; have HB := n0_; clear n0_; (try clear hb); (try clear hb2); (try clear hk); (try clear hi)) | ((with_reducible refine gate_callee (f := 25) rfl ?_); refine goesL_ (some 68) rfl rfl Try.func25 (by kernel_rfl) rfl #[.string t521, .int .i64 t520, .int .i64 0] rfl (by (try simp only [List.map_toArray, List.map_cons, List.map_nil]); first | done | rfl | (simp only [List.length_drop, List.length_take]; rfl)) ?_; (with_reducible refine (impl_MakeEvery.calls t521 t520 0 t527 false _ A16.out).mono ?_); rintro e w26 ⟨rfl, hb⟩; refine ⟨_, rfl, ?_⟩; have n0_ := Aside0.mk (below_step (by repeat (first | (with_reducible first | exact HB.out | apply below_alloc | apply pw_below_drewN | apply below_drew1) | exact HB.out)) hb); clear HB; have HB := n0_; clear n0_; (try clear hb); (try clear hb2); (try clear hk); (try clear hi)) | ((with_reducible refine gate_callee (f := 13) rfl ?_); refine goesL_ (some 73) rfl rfl Try.func13 (by kernel_rfl) rfl #[.string t519] rfl (by (try simp only [List.map_toArray, List.map_cons, List.map_nil]); first | done | rfl | (simp only [List.length_drop, List.length_take]; rfl)) ?_; (with_reducible refine (impl_SetTidy.calls kj5 t519 t529 true _ A17.out).mono ?_); rintro e w27 ⟨rfl, hb⟩; refine ⟨_, rfl, ?_⟩; have n0_ := Aside0.mk (below_step (by repeat (first | (with_reducible first | exact HB.out | apply below_alloc | apply pw_below_drewN | apply below_drew1) | exact HB.out)) hb); clear HB; have HB := n0_; clear n0_; (try clear hb); (try clear hb2); (try clear hk); (try clear hi)))
                  go_ret
                  exact ⟨by first | rfl | (simp [errW_none, errW_some] <;> rfl) | (simp [*, errW_none, errW_some] <;> rfl) | (simp [errW_none, errW_some]; exact ⟨rfl, rfl⟩), by repeat (first | (with_reducible first | exact HB.out | apply below_alloc | apply pw_below_drewN | apply below_drew1) | exact HB.out)⟩
              · rw [if_neg c20] at H
                have c20b0 : (t525.toList == t529.toList) = false := beq_eq_false_iff_ne.mpr c20
                have c20b1 : (t525.toList != t529.toList) = true := bne_iff_ne.mpr c20
                obtain rfl := Option.some.inj H
                go_wp2_with (first | ((with_reducible refine gate_callee (f := 24) rfl ?_); refine goesL_ (some 62) rfl rfl Try.func24 (by kernel_rfl) rfl #[.string t521, .int .i64 t520] rfl (by (try simp only [List.map_toArray, List.map_cons, List.map_nil]); first | done | rfl | (simp only [List.length_drop, List.length_take]; rfl)) ?_; (with_reducible refine (impl_MakeOver.calls t521 t520 t525 true _ A15.out).mono ?_); rintro e w28 ⟨rfl, hb⟩; refine ⟨_, rfl, ?_⟩; have n0_ := Aside0.mk (below_step (by repeat (first | (with_reducible first | exact HB.out | apply below_alloc | apply pw_below_drewN | apply below_drew1) | exact HB.out)) hb); clear HB; have HB := n0_; clear n0_; (try clear hb); (try clear hb2); (try clear hk); (try clear hi)) | ((with_reducible refine gate_callee (f := 25) rfl ?_); refine goesL_ (some 68) rfl rfl Try.func25 (by kernel_rfl) rfl #[.string t521, .int .i64 t520, .int .i64 0] rfl (by (try simp only [List.map_toArray, List.map_cons, List.map_nil]); first | done | rfl | (simp only [List.length_drop, List.length_take]; rfl)) ?_; (with_reducible refine (impl_MakeEvery.calls t521 t520 0 t527 t528 _ A16.out).mono ?_); rintro e w29 ⟨rfl, hb⟩; refine ⟨_, rfl, ?_⟩; have n0_ := Aside0.mk (below_step (by repeat (first | (with_reducible first | exact HB.out | apply below_alloc | apply pw_below_drewN | apply below_drew1) | exact HB.out)) hb); clear HB; have HB := n0_; clear n0_; (try clear hb); (try clear hb2); (try clear hk); (try clear hi)) | ((with_reducible refine gate_callee (f := 13) rfl ?_); refine goesL_ (some 73) rfl rfl Try.func13 (by kernel_rfl) rfl #[.string t519] rfl (by (try simp only [List.map_toArray, List.map_cons, List.map_nil]); first | done | rfl | (simp only [List.length_drop, List.length_take]; rfl)) ?_; (with_reducible refine (impl_SetTidy.calls kj5 t519 t529 true _ A17.out).mono ?_); rintro e w30 ⟨rfl, hb⟩; refine ⟨_, rfl, ?_⟩; have n0_ := Aside0.mk (below_step (by repeat (first | (with_reducible first | exact HB.out | apply below_alloc | apply pw_below_drewN | apply below_drew1) | exact HB.out)) hb); clear HB; have HB := n0_; clear n0_; (try clear hb); (try clear hb2); (try clear hk); (try clear hi)))
                go_ret
                exact ⟨by first | rfl | (simp [errW_none, errW_some] <;> rfl) | (simp [*, errW_none, errW_some] <;> rfl) | (simp [errW_none, errW_some]; exact ⟨rfl, rfl⟩), by repeat (first | (with_reducible first | exact HB.out | apply below_alloc | apply pw_below_drewN | apply below_drew1) | exact HB.out)⟩
            · replace c19 := Bool.eq_false_iff.mpr c19
              subst c19
              have H1 : (if t528 = true then (some (t527.toList == t529.toList)) else (some true)) = some r := by rw [if_neg (show ¬ (false = true) by decide)] at H; exact H
              clear H
              have H := H1
              clear H1
              by_cases c31 : t528 = true
              · subst c31
                have H1 : (some (t527.toList == t529.toList)) = some r := by rw [if_pos rfl] at H; exact H
                clear H
                have H := H1
                clear H1
                obtain rfl := Option.some.inj H
                go_wp2_with (first | ((with_reducible refine gate_callee (f := 24) rfl ?_); refine goesL_ (some 62) rfl rfl Try.func24 (by kernel_rfl) rfl #[.string t521, .int .i64 t520] rfl (by (try simp only [List.map_toArray, List.map_cons, List.map_nil]); first | done | rfl | (simp only [List.length_drop, List.length_take]; rfl)) ?_; (with_reducible refine (impl_MakeOver.calls t521 t520 t525 false _ A15.out).mono ?_); rintro e w32 ⟨rfl, hb⟩; refine ⟨_, rfl, ?_⟩; have n0_ := Aside0.mk (below_step (by repeat (first | (with_reducible first | exact HB.out | apply below_alloc | apply pw_below_drewN | apply below_drew1) | exact HB.out)) hb); clear HB; have HB := n0_; clear n0_; (try clear hb); (try clear hb2); (try clear hk); (try clear hi)) | ((with_reducible refine gate_callee (f := 25) rfl ?_); refine goesL_ (some 68) rfl rfl Try.func25 (by kernel_rfl) rfl #[.string t521, .int .i64 t520, .int .i64 0] rfl (by (try simp only [List.map_toArray, List.map_cons, List.map_nil]); first | done | rfl | (simp only [List.length_drop, List.length_take]; rfl)) ?_; (with_reducible refine (impl_MakeEvery.calls t521 t520 0 t527 true _ A16.out).mono ?_); rintro e w33 ⟨rfl, hb⟩; refine ⟨_, rfl, ?_⟩; have n0_ := Aside0.mk (below_step (by repeat (first | (with_reducible first | exact HB.out | apply below_alloc | apply pw_below_drewN | apply below_drew1) | exact HB.out)) hb); clear HB; have HB := n0_; clear n0_; (try clear hb); (try clear hb2); (try clear hk); (try clear hi)) | ((with_reducible refine gate_callee (f := 13) rfl ?_); refine goesL_ (some 73) rfl rfl Try.func13 (by kernel_rfl) rfl #[.string t519] rfl (by (try simp only [List.map_toArray, List.map_cons, List.map_nil]); first | done | rfl | (simp only [List.length_drop, List.length_take]; rfl)) ?_; (with_reducible refine (impl_SetTidy.calls kj5 t519 t529 true _ A17.out).mono ?_); rintro e w34 ⟨rfl, hb⟩; refine ⟨_, rfl, ?_⟩; have n0_ := Aside0.mk (below_step (by repeat (first | (with_reducible first | exact HB.out | apply below_alloc | apply pw_below_drewN | apply below_drew1) | exact HB.out)) hb); clear HB; have HB := n0_; clear n0_; (try clear hb); (try clear hb2); (try clear hk); (try clear hi)))
                go_ret
                exact ⟨by first | rfl | (simp [errW_none, errW_some] <;> rfl) | (simp [*, errW_none, errW_some] <;> rfl) | (simp [errW_none, errW_some]; exact ⟨rfl, rfl⟩), by repeat (first | (with_reducible first | exact HB.out | apply below_alloc | apply pw_below_drewN | apply below_drew1) | exact HB.out)⟩
              · replace c31 := Bool.eq_false_iff.mpr c31
                subst c31
                have H1 : (some true) = some r := by rw [if_neg (show ¬ (false = true) by decide)] at H; exact H
                clear H
                have H := H1
                clear H1
                obtain rfl := Option.some.inj H
                go_wp2_with (first | ((with_reducible refine gate_callee (f := 24) rfl ?_); refine goesL_ (some 62) rfl rfl Try.func24 (by kernel_rfl) rfl #[.string t521, .int .i64 t520] rfl (by (try simp only [List.map_toArray, List.map_cons, List.map_nil]); first | done | rfl | (simp only [List.length_drop, List.length_take]; rfl)) ?_; (with_reducible refine (impl_MakeOver.calls t521 t520 t525 false _ A15.out).mono ?_); rintro e w35 ⟨rfl, hb⟩; refine ⟨_, rfl, ?_⟩; have n0_ := Aside0.mk (below_step (by repeat (first | (with_reducible first | exact HB.out | apply below_alloc | apply pw_below_drewN | apply below_drew1) | exact HB.out)) hb); clear HB; have HB := n0_; clear n0_; (try clear hb); (try clear hb2); (try clear hk); (try clear hi)) | ((with_reducible refine gate_callee (f := 25) rfl ?_); refine goesL_ (some 68) rfl rfl Try.func25 (by kernel_rfl) rfl #[.string t521, .int .i64 t520, .int .i64 0] rfl (by (try simp only [List.map_toArray, List.map_cons, List.map_nil]); first | done | rfl | (simp only [List.length_drop, List.length_take]; rfl)) ?_; (with_reducible refine (impl_MakeEvery.calls t521 t520 0 t527 false _ A16.out).mono ?_); rintro e w36 ⟨rfl, hb⟩; refine ⟨_, rfl, ?_⟩; have n0_ := Aside0.mk (below_step (by repeat (first | (with_reducible first | exact HB.out | apply below_alloc | apply pw_below_drewN | apply below_drew1) | exact HB.out)) hb); clear HB; have HB := n0_; clear n0_; (try clear hb); (try clear hb2); (try clear hk); (try clear hi)) | ((with_reducible refine gate_callee (f := 13) rfl ?_); refine goesL_ (some 73) rfl rfl Try.func13 (by kernel_rfl) rfl #[.string t519] rfl (by (try simp only [List.map_toArray, List.map_cons, List.map_nil]); first | done | rfl | (simp only [List.length_drop, List.length_take]; rfl)) ?_; (with_reducible refine (impl_SetTidy.calls kj5 t519 t529 true _ A17.out).mono ?_); rintro e w37 ⟨rfl, hb⟩; refine ⟨_, rfl, ?_⟩; have n0_ := Aside0.mk (below_step (by repeat (first | (with_reducible first | exact HB.out | apply below_alloc | apply pw_below_drewN | apply below_drew1) | exact HB.out)) hb); clear HB; have HB := n0_; clear n0_; (try clear hb); (try clear hb2); (try clear hk); (try clear hi)))
                go_ret
                exact ⟨by first | rfl | (simp [errW_none, errW_some] <;> rfl) | (simp [*, errW_none, errW_some] <;> rfl) | (simp [errW_none, errW_some]; exact ⟨rfl, rfl⟩), by repeat (first | (with_reducible first | exact HB.out | apply below_alloc | apply pw_below_drewN | apply below_drew1) | exact HB.out)⟩
          · replace c18 := Bool.eq_false_iff.mpr c18
            subst c18
            have H1 : (some false) = some r := by rw [if_neg (show ¬ (false = true) by decide)] at H; exact H
            clear H
            have H := H1
            clear H1
            obtain rfl := Option.some.inj H
            go_wp2_with (first | ((with_reducible refine gate_callee (f := 24) rfl ?_); refine goesL_ (some 62) rfl rfl Try.func24 (by kernel_rfl) rfl #[.string t521, .int .i64 t520] rfl (by (try simp only [List.map_toArray, List.map_cons, List.map_nil]); first | done | rfl | (simp only [List.length_drop, List.length_take]; rfl)) ?_; (with_reducible refine (impl_MakeOver.calls t521 t520 t525 t526 _ A15.out).mono ?_); rintro e w38 ⟨rfl, hb⟩; refine ⟨_, rfl, ?_⟩; have n0_ := Aside0.mk (below_step (by repeat (first | (with_reducible first | exact HB.out | apply below_alloc | apply pw_below_drewN | apply below_drew1) | exact HB.out)) hb); clear HB; have HB := n0_; clear n0_; (try clear hb); (try clear hb2); (try clear hk); (try clear hi)) | ((with_reducible refine gate_callee (f := 25) rfl ?_); refine goesL_ (some 68) rfl rfl Try.func25 (by kernel_rfl) rfl #[.string t521, .int .i64 t520, .int .i64 0] rfl (by (try simp only [List.map_toArray, List.map_cons, List.map_nil]); first | done | rfl | (simp only [List.length_drop, List.length_take]; rfl)) ?_; (with_reducible refine (impl_MakeEvery.calls t521 t520 0 t527 t528 _ A16.out).mono ?_); rintro e w39 ⟨rfl, hb⟩; refine ⟨_, rfl, ?_⟩; have n0_ := Aside0.mk (below_step (by repeat (first | (with_reducible first | exact HB.out | apply below_alloc | apply pw_below_drewN | apply below_drew1) | exact HB.out)) hb); clear HB; have HB := n0_; clear n0_; (try clear hb); (try clear hb2); (try clear hk); (try clear hi)) | ((with_reducible refine gate_callee (f := 13) rfl ?_); refine goesL_ (some 73) rfl rfl Try.func13 (by kernel_rfl) rfl #[.string t519] rfl (by (try simp only [List.map_toArray, List.map_cons, List.map_nil]); first | done | rfl | (simp only [List.length_drop, List.length_take]; rfl)) ?_; (with_reducible refine (impl_SetTidy.calls kj5 t519 t529 false _ A17.out).mono ?_); rintro e w40 ⟨rfl, hb⟩; refine ⟨_, rfl, ?_⟩; have n0_ := Aside0.mk (below_step (by repeat (first | (with_reducible first | exact HB.out | apply below_alloc | apply pw_below_drewN | apply below_drew1) | exact HB.out)) hb); clear HB; have HB := n0_; clear n0_; (try clear hb); (try clear hb2); (try clear hk); (try clear hi)))
            go_ret
            exact ⟨by first | rfl | (simp [errW_none, errW_some] <;> rfl) | (simp [*, errW_none, errW_some] <;> rfl) | (simp [errW_none, errW_some]; exact ⟨rfl, rfl⟩), by repeat (first | (with_reducible first | exact HB.out | apply below_alloc | apply pw_below_drewN | apply below_drew1) | exact HB.out)⟩

/-- THE ONE PURE STATEMENT of laws_FnMakeTimesOver: yours. -/
noncomputable def laws_FnMakeTimesOver.Pure : Prop := ∀ (l0 : List Int), l0.length ≤ maxLen → l0.length * 1 ≤ 140737488351232 → (∀ x ∈ l0, (Lit.int .u8 x).wf = true) → ∃ k, laws_FnMakeTimesOver.f k l0 = some true
theorem laws_FnMakeTimesOver.walk (P : laws_FnMakeTimesOver.Pure) (a0 : Option Addr) (len0 cap0 : Nat) (z0 : List Int) (w : World) (w0 : (a0 = none ∧ len0 = 0 ∧ cap0 = 0 ∧ z0 = []) ∨ ∃ x, a0 = some x ∧ len0 ≤ cap0 ∧ cap0 ≤ maxLen ∧ z0.length = cap0 ∧ (∀ i, i < z0.length → w.cell? (x.add i) = some (.int .u8 (z0.getD i 0))) ∧ ∀ n ∈ z0, (Lit.int .u8 n).wf = true) (y0 : len0 * 1 ≤ 140737488351232) :
    Calls Try.prog 8 #[.slice a0 len0 cap0] w fun e w' => e = .returned (.bool true) ∧ Below w.heap.size w w' := by
  obtain ⟨l0, rfl, hr0, hm0, hw0, hc0⟩ := ReadsInt.ofRowC w0
  obtain ⟨k, h⟩ := P l0 hm0 y0 hw0
  refine (laws_FnMakeTimesOver.calls k _ _ l0 true w (Kd.C_of_reads (d := (0 : Int)) (h1 := fun _ => rfl) hr0) hc0 h).mono ?_
  rintro e w' ⟨rfl, hd⟩
  exact ⟨rfl, hd⟩

end Go.Proofs.Ytfoolgjofinmlaa.P

-- spec.l6In: a number in a range.
namespace Go.Proofs.Ytfoolgjofinmlaa.P
open Go.RowKit Go.Proofs.YtfoolgjofinmlaaW.PrintWords Go.Proofs.YtfoolgjofinmlaaW.PrintLast Go.Proofs.YtfoolgjofinmlaaW.PrintMore
set_option linter.unusedVariables false
set_option linter.unusedSimpArgs false

theorem l6in_f (a b c : Int) : spec_l6In.f a b c = some (decide (b ≤ a ∧ a ≤ c)) := by
  unfold spec_l6In.f
  by_cases h : a ≥ b
  · rw [if_pos h]; congr 1; apply decide_eq_decide.2; omega
  · rw [if_neg h]; congr 1; symm; rw [decide_eq_false_iff_not]; omega

end Go.Proofs.Ytfoolgjofinmlaa.P

-- spec.l91Number draws a number from 0 to n, seldom another one.
namespace Go.Proofs.Ytfoolgjofinmlaa.P
open Go.RowKit Go.Proofs.YtfoolgjofinmlaaW.PrintWords Go.Proofs.YtfoolgjofinmlaaW.PrintLast Go.Proofs.YtfoolgjofinmlaaW.PrintMore
set_option linter.unusedVariables false
set_option linter.unusedSimpArgs false

theorem num91_f {b : List Int} (h : Code b) (p n : Nat) (hp : p ≤ 900000) (hn : n ≤ 100000) : ∃ (v : Int) (q : Nat), -1 ≤ v ∧ v ≤ n + 1 ∧ q ≤ p + 2 ∧ Ev (fun k => spec_l91Number.f k b p n) (v, (q : Int)) := by
  obtain ⟨v1, hv1, e1⟩ := pick_f h p 16 (by omega) (by omega) (by omega)
  by_cases h0 : v1 = 0
  · obtain ⟨v2, hv2, e2⟩ := pick_f h (p + 1) 3 (by omega) (by omega) (by omega)
    have e : wrap64 ((n : Int) + 1) = ((n + 1 : Nat) : Int) := wsucc (by omega)
    refine ⟨rd [(-1), (n : Int), ((n + 1 : Nat) : Int)] v2, p + 2, ?_, ?_, by omega, Ev.congr (fun k => rfl) (Ev.bind e1 ?_)⟩
    · match v2, hv2 with
      | 0, _ => simp [rd] <;> omega
      | 1, _ => simp [rd] <;> omega
      | 2, _ => simp [rd] <;> omega
    · match v2, hv2 with
      | 0, _ => simp [rd] <;> omega
      | 1, _ => simp [rd] <;> omega
      | 2, _ => simp [rd] <;> omega
    · subst h0
      simp only [Int.natCast_zero, if_true, Option.bind_some, e]
      refine Ev.bind e2 ?_
      have hl : ((v2 : Int) < (([(-1), (n : Int), ((n + 1 : Nat) : Int)] : List Int).length : Int)) := by simp; omega
      simp only [if_pos (show (0 : Int) ≤ (v2 : Int) by omega), if_pos hl]
      exact Ev.now _
  · have e : wrap64 ((mn (n : Int) 30) + 1) = ((min n 30 + 1 : Nat) : Int) := by
      have : mn (n : Int) 30 = ((min n 30 : Nat) : Int) := by unfold mn; split <;> omega
      rw [this, wsucc (by omega)]
    obtain ⟨v2, hv2, e2⟩ := pick_f h (p + 1) (min n 30 + 1) (by omega) (by omega) (by omega)
    refine ⟨(v2 : Int), p + 2, by omega, by omega, by omega, Ev.congr (fun k => rfl) (Ev.bind e1 ?_)⟩
    simp only [if_neg (show ¬ ((v1 : Int) = 0) by omega), e]
    exact Ev.bind e2 (Ev.now _)

end Go.Proofs.Ytfoolgjofinmlaa.P

-- spec.MakeTimes marks multiples.
namespace Go.Proofs.Ytfoolgjofinmlaa.P
open Go.RowKit Go.Proofs.YtfoolgjofinmlaaW.PrintWords Go.Proofs.YtfoolgjofinmlaaW.PrintLast Go.Proofs.YtfoolgjofinmlaaW.PrintMore
set_option linter.unusedVariables false
set_option linter.unusedSimpArgs false

/-- Whether some sign from i on tells a number. -/
noncomputable def anyFrom (l : List Bool) (i : Nat) : Bool := dec (∃ j, i ≤ j ∧ j < l.length ∧ l.getD j false = true)
theorem anyFrom_end (l : List Bool) : anyFrom l l.length = false := dec_false fun ⟨j, a, b, _⟩ => by omega
theorem anyFrom_step {l : List Bool} {i : Nat} (hi : i < l.length) : anyFrom l i = (l.getD i false || anyFrom l (i + 1)) := by
  unfold anyFrom
  cases h : l.getD i false with
  | true => rw [dec_true ⟨i, Nat.le_refl _, hi, h⟩]; rfl
  | false =>
    rw [Bool.false_or]
    apply dec_congr
    constructor
    · rintro ⟨j, a, b, c⟩
      rcases Nat.eq_or_lt_of_le a with rfl | a
      · rw [h] at c; cases c
      · exact ⟨j, a, b, c⟩
    · rintro ⟨j, a, b, c⟩; exact ⟨j, by omega, b, c⟩
theorem anyFrom_has {t r : List Bool} (hr : 0 < r.length) : (anyFrom r 0 || anyFrom t 0) = dec (∃ m, hasB t r m = true) := by
  rw [Bool.eq_iff_iff, Bool.or_eq_true]
  unfold anyFrom
  rw [dec_iff, dec_iff, dec_iff]
  constructor
  · rintro (⟨j, _, b, c⟩ | ⟨j, _, b, c⟩)
    · exact ⟨t.length + j, by rw [hasB_ring, Nat.mod_eq_of_lt b]; exact c⟩
    · exact ⟨j, by rw [hasB_tail b]; exact c⟩
  · rintro ⟨m, h⟩
    rcases Nat.lt_or_ge m t.length with h1 | h1
    · rw [hasB_tail h1] at h; exact .inr ⟨m, Nat.zero_le _, h1, h⟩
    · rw [hasB_ring' h1] at h; exact .inl ⟨_, Nat.zero_le _, Nat.mod_lt _ hr, h⟩
theorem ends_l0 (t r : List Bool) (hl : r.length ≤ 1000000) : ∀ (e i : Nat), i ≤ r.length → r.length - i = e → Ev (fun k => spec_l1Ends.l0 k i t r) (!anyFrom r i) := by
  intro e
  induction e with
  | zero =>
    intro i hi he
    have e : i = r.length := by omega
    subst e
    rw [anyFrom_end]
    refine Ev.step (f := fun k => some true) (fun k => ?_) (Ev.now _)
    simp only [spec_l1Ends.l0]; rw [if_neg (by omega)]
  | succ e ih =>
    intro i hi he
    have hih := ih (i + 1) (by omega) (by omega)
    rw [anyFrom_step (by omega)]
    cases h : r.getD i false with
    | true =>
      refine Ev.step (f := fun k => some false) (fun k => ?_) (Ev.now _)
      simp only [spec_l1Ends.l0]; rw [if_pos (by omega), if_pos (by omega), rdOf_nat, h, if_pos (by trivial)]
    | false =>
      rw [Bool.false_or]
      refine Ev.step (fun k => ?_) hih
      simp only [spec_l1Ends.l0]; rw [if_pos (by omega), if_pos (by omega), rdOf_nat, h, if_neg (by decide), wsucc (by omega)]
theorem ends_f (t r : List Bool) (hl : r.length ≤ 1000000) : Ev (fun k => spec_l1Ends.f k t r) (!anyFrom r 0) := ends_l0 t r hl _ 0 (Nat.zero_le _) rfl
theorem one_has (v : Bool) : hasB [v] [false] = fun n => decide (n = 0) && v := by
  funext n
  rcases Nat.eq_zero_or_pos n with rfl | h
  · rw [hasB_tail (Nat.zero_lt_one)]; rfl
  · rw [hasB_ring' (show [v].length ≤ n from h), decide_eq_false (by omega)]; simp [Nat.mod_one]
theorem smakeTimes_l0 (a b : List Bool) (ha : a.length ≤ 60) : ∀ (d i : Nat) (v : Bool), i ≤ a.length → a.length - i = d →
    Ev (fun n => spec_MakeTimes.l0 n v i a b) (txt (cn (fun n => decide (n = 0) && (v || anyFrom a i)))) := by
  intro d
  induction d with
  | zero =>
    intro i v h1 h2
    have e : i = a.length := by omega
    subst e
    rw [anyFrom_end, Bool.or_false, ← one_has]
    refine Ev.step (f := fun n => (spec_l1Done.f n [v] [false]).bind fun bt400 => (some (bt400.1, bt400.2))) (fun n => ?_) (Ev.bind (done_f [v] [false] (by simp) (by simp)) (Ev.now _))
    simp only [spec_MakeTimes.l0]; rw [if_neg (by omega)]
  | succ d ih =>
    intro i v h1 h2
    cases v with
    | true =>
      have := ih (i + 1) true (by omega) (by omega)
      rw [Bool.true_or] at this ⊢
      refine Ev.step (fun n => ?_) this
      simp only [spec_MakeTimes.l0]; rw [if_pos (by omega), if_pos (by trivial), wsucc (by omega)]
    | false =>
      have := ih (i + 1) (a.getD i false) (by omega) (by omega)
      rw [Bool.false_or, anyFrom_step (by omega)]
      refine Ev.step (fun n => ?_) this
      simp only [spec_MakeTimes.l0]; rw [if_pos (by omega), if_neg (by decide), if_pos (by omega), rdOf_nat, wsucc (by omega)]
theorem smakeTimes_l1 (a b : List Bool) (hb : b ≠ []) (ha : a.length ≤ 60) (hbl : b.length ≤ 60) (k : Nat) (h1k : 1 ≤ k) (hk : k ≤ 20) : ∀ (d x : Nat), x ≤ k * a.length + k * b.length → k * a.length + k * b.length - x = d →
    Ev (fun n => spec_MakeTimes.l1 n k (mkT (tmq (hasB a b) k) x) x a b) (txt (cn (tmq (hasB a b) k))) := by
  have hpos := List.length_pos_iff.2 hb
  have hper := tmq_per (hasB_per a b) h1k
  have hp2 : 0 < k * b.length := Nat.mul_pos h1k hpos
  have hm1 : k * a.length ≤ 20 * 60 := Nat.mul_le_mul hk ha
  have hm2 : k * b.length ≤ 20 * 60 := Nat.mul_le_mul hk hbl
  have hadd : k * (a.length + b.length) = k * a.length + k * b.length := Nat.mul_add _ _ _
  have e1 : wrap64 ((k : Int) * ((a.length + b.length : Nat) : Int)) = ((k * a.length + k * b.length : Nat) : Int) := by rw [wmul (by rw [hadd]; omega), hadd]
  have e2 : wrap64 ((k : Int) * (a.length : Int)) = ((k * a.length : Nat) : Int) := wmul (by omega)
  have hv : ∀ x, tmq (hasB a b) k x = (decide (x % k = 0) && hasB a b (x / k)) := fun x => by rw [tmq_pos _ h1k]
  generalize k * a.length = X at *
  generalize k * b.length = Y at *
  intro d
  induction d with
  | zero =>
    intro x h1 h2
    have e : x = X + Y := by clear e1 e2; omega
    subst e
    refine Ev.step (f := fun n => (spec_l2Fill.f n (mkT (tmq (hasB a b) k) (X + Y)) (X : Int)).bind fun bt309 => (some (bt309.1, bt309.2))) (fun n => ?_) (Ev.bind (fill_f hp2 hper (by clear e1 e2; omega)) (Ev.now _))
    simp only [spec_MakeTimes.l1]
    rw [wadd (by clear e1 e2; omega), e1, e2, if_neg (Int.lt_irrefl _)]
  | succ d ih =>
    intro x h1 h2
    have c1 : (x : Int) < ((X + Y : Nat) : Int) := by clear e1 e2; omega
    have c2 : a.length + b.length ≤ 4611686018427387904 := by clear e1 e2; omega
    have c3 : x ≤ 4611686018427387904 := by clear e1 e2; omega
    have c4 : x ≤ 3000 := by clear e1 e2; omega
    have c5 : ¬ ((k : Int) = 0) := by clear e1 e2; omega
    have c6 : (mkT (tmq (hasB a b) k) x).length < 140737488355328 := by rw [mkT_length]; clear e1 e2; omega
    have hdv : x / k ≤ x := Nat.div_le_self _ _
    have hh : spec_l1Has.f a b ((x / k : Nat) : Int) = some (hasB a b (x / k)) := shas_f a b hb (by clear e1 e2; omega) _ (by clear e1 e2; generalize x / k = q at *; omega)
    have hw : wrap64 (((x / k : Nat) : Int)) = ((x / k : Nat) : Int) := by clear e1 e2; generalize x / k = q at *; exact w64 (by omega) (by omega)
    have h3 := ih (x + 1) (by clear e1 e2 hw; omega) (by clear e1 e2 hw; omega)
    rw [mkT_succ, hv x] at h3
    refine Ev.step (fun n => ?_) h3
    simp only [spec_MakeTimes.l1]
    rw [wadd c2, e1, if_pos c1, if_neg c5, tmod_nat, tdiv_nat, hw, hh]
    simp only [Option.bind_some]
    by_cases hz : x % k = 0
    · rw [hz, if_pos (by rfl), if_pos c6, decide_eq_true rfl, Bool.true_and, wsucc c3]
    · have hz2 : ¬ (((x % k : Nat) : Int) = 0) := fun h => hz (Int.natCast_eq_zero.1 h)
      rw [if_neg hz2, if_pos c6, decide_eq_false hz, Bool.false_and, wsucc c3]
theorem smakeTimes_f (s : ByteArray) (hs : s.size ≤ 70368744177664) (k : Int) : Ev (fun n => spec_MakeTimes.f n s k) (tmr (chrs s) k) := by
  have out : ∀ a b, Ev (fun n => spec_MakeTimes.j0 n k true a b) ((⟨#[]⟩ : ByteArray), false) := fun a b => by
    refine Ev.step (f := fun n => some ((⟨#[]⟩ : ByteArray), false)) (fun n => ?_) (Ev.now _)
    simp only [spec_MakeTimes.j0]; rfl
  refine Ev.congr (fun n => rfl) (Ev.bind (read_f s hs) ?_)
  unfold parsed
  cases h : parse (chrs s) with
  | none =>
    have e : tmr (chrs s) k = (⟨#[]⟩, false) := by unfold tmr; rw [h]; rfl
    rw [e]; simp only [Bool.false_eq_true, if_false]; exact out _ _
  | some ab =>
    have hb := parse_some (a := ab.1) (b := ab.2) h
    simp only [if_true, l6in_f, Option.bind_some]
    by_cases hk : 0 ≤ k ∧ k ≤ 20
    · obtain ⟨k, rfl⟩ := Int.eq_ofNat_of_zero_le (show 0 ≤ k by omega)
      have e : tmr (chrs s) k = txt (cn (tmq (hasB ab.1 ab.2) k)) := by
        unfold tmr; rw [h, setf_some (a := ab.1) (b := ab.2) h, decide_eq_true hk, Int.toNat_natCast]; rfl
      rw [e]
      simp only [decide_eq_true hk, Bool.not_true]
      rcases Nat.eq_zero_or_pos k with rfl | h1
      · have h2 := smakeTimes_l0 ab.1 ab.2 hb.1 _ 0 (anyFrom ab.2 0) (Nat.zero_le _) rfl
        rw [anyFrom_has (List.length_pos_iff.2 hb.2.2), ← tmq_zero] at h2
        refine Ev.step (f := fun n => (spec_l1Ends.f n ab.1 ab.2).bind fun t392 => (spec_MakeTimes.l0 n (!t392) 0 ab.1 ab.2)) (fun n => ?_) (Ev.bind (ends_f ab.1 ab.2 (by omega)) (by rw [Bool.not_not]; exact h2))
        simp only [spec_MakeTimes.j0]
        rw [if_neg (by decide), if_pos (by rfl)]
      · refine Ev.step (fun n => ?_) (smakeTimes_l1 ab.1 ab.2 hb.2.2 hb.1 hb.2.1 k h1 (by omega) _ 0 (Nat.zero_le _) rfl)
        simp only [spec_MakeTimes.j0]
        rw [if_neg (by decide), if_neg (by omega)]; rfl
    · have e : tmr (chrs s) k = (⟨#[]⟩, false) := by unfold tmr; rw [decide_eq_false hk, Bool.and_false]; rfl
      rw [e]; simp only [decide_eq_false hk, Bool.not_false]; exact out _ _
end Go.Proofs.Ytfoolgjofinmlaa.P

-- For every code the law FnMakeTimesOver holds.
namespace Go.Proofs.Ytfoolgjofinmlaa.P
open Go.RowKit Go.Proofs.YtfoolgjofinmlaaW.PrintWords Go.Proofs.YtfoolgjofinmlaaW.PrintLast Go.Proofs.YtfoolgjofinmlaaW.PrintMore
set_option linter.unusedVariables false
set_option linter.unusedSimpArgs false

theorem drawTimesOver_f (l : List Int) (h : ∀ x ∈ l, (Lit.int .u8 x).wf = true) : ∃ (s : ByteArray) (n : Int), Few s ∧ Ev (fun k => spec_DrawMakeTimes.f k l) (s, n) := by
  obtain ⟨s, q, hf, hq, K0, h0⟩ := set91_f (code_of h) 0 (by omega)
  dsimp only at h0
  have g0 : ∀ k, K0 ≤ k → spec_l91Set.f k (l.take 2000) 0 = some (s, (q : Int)) := h0
  obtain ⟨v0, p0, a0, b0, c0, K1, h1⟩ := num91_f (code_of h) q 20 (by omega) (by omega)
  dsimp only at h1
  have g1 : ∀ k, K1 ≤ k → spec_l91Number.f k (l.take 2000) (q : Int) 20 = some (v0, (p0 : Int)) := h1
  refine ⟨s, v0, hf, K0 + K1, fun k hk => ?_⟩
  dsimp only
  unfold spec_DrawMakeTimes.f
  rw [open_f, Option.bind_some, g0 k (by omega), Option.bind_some, g1 k (by omega), Option.bind_some]
theorem ovq_tmq (f : Nat → Bool) {k : Nat} (hk : 1 ≤ k) : ovq (tmq f k) k = f := by
  funext n
  rw [tmq_pos f hk]
  unfold ovq
  have e0 : (k * n + 0) % k = 0 := by rw [Nat.add_zero]; exact Nat.mul_mod_right k n
  have e1 : (k * n + 0) / k = n := by rw [Nat.add_zero]; exact Nat.mul_div_cancel_left n hk
  cases hf : f n with
  | true =>
    rw [List.any_eq_true]
    refine ⟨0, List.mem_range.2 hk, ?_⟩
    dsimp only
    rw [e0, e1, hf]; rfl
  | false =>
    rw [List.any_eq_false]
    intro i hi
    have hi := List.mem_range.1 hi
    have e2 : (k * n + i) % k = i := by rw [Nat.mul_add_mod, Nat.mod_eq_of_lt hi]
    dsimp only
    rw [e2]
    rcases Nat.eq_zero_or_pos i with rfl | hp
    · rw [e1, hf]; decide
    · rw [decide_eq_false (by omega)]; simp
theorem evq_tmq (f : Nat → Bool) {k : Nat} (hk : 1 ≤ k) : evq (tmq f k) k 0 = f := by
  funext n
  rw [tmq_pos f hk]
  show (decide ((k * n + 0) % k = 0) && f ((k * n + 0) / k)) = f n
  rw [Nat.add_zero, Nat.mul_mod_right, Nat.mul_div_cancel_left n hk]; rfl
theorem timesOver_eq {s : List UInt8} {k : Int} (h1 : (tmr s k).2 = true) (hk : ¬ k < 1) : (tdy s).2 = true ∧ ((ovr (chrs (tmr s k).1) k) = tdy s) ∧ (evr (chrs (tmr s k).1) k 0 = tdy s) := by
  unfold tmr at h1 ⊢
  obtain ⟨hc, hA⟩ := ite_ok h1
  rw [if_pos hc]
  rw [Bool.and_eq_true] at hc
  have hr := of_decide_eq_true hc.2
  obtain ⟨kk, rfl⟩ := Int.eq_ofNat_of_zero_le hr.1
  rw [Int.toNat_natCast] at hA ⊢
  obtain ⟨⟨a, b⟩, hp⟩ := Option.isSome_iff_exists.1 hc.1
  have hb := parse_some hp
  obtain ⟨p1, p2⟩ := parse_per hp
  have hs1 := cn_spec p1 p2
  have hk1 : 1 ≤ kk := by omega
  have hset := setf_some hp
  rw [hset] at hA ⊢
  have hpos : 0 < kk * b.length := Nat.mul_pos hk1 p1
  have hper := tmq_per p2 hk1
  have hx := txt_setf hpos hper hA
  have hy := txt_parse hpos hper hA
  refine ⟨by rw [tdy_some hp], ?_, ?_⟩
  · unfold ovr
    rw [hy, decide_eq_true (show (1 : Int) ≤ (kk : Int) ∧ (kk : Int) ≤ 20 by omega), Int.toNat_natCast, hx, ovq_tmq _ hk1, tdy_some hp, txt_ok (by omega) (by omega)]; rfl
  · unfold evr
    rw [hy, decide_eq_true (show (1 : Int) ≤ (kk : Int) ∧ (kk : Int) ≤ 20 by omega), decide_eq_true (show (0 : Int) ≤ 0 ∧ (0 : Int) ≤ 100 by omega), Int.toNat_natCast, hx]
    show (if _ then txt (cn (evq (tmq (hasB a b) kk) kk 0)) else _) = _
    rw [evq_tmq _ hk1, tdy_some hp, txt_ok (by omega) (by omega)]; rfl
theorem timesOver_size (s : List UInt8) (k : Int) : (tmr s k).1.size ≤ 122 := by
  unfold tmr
  split
  · exact txt_size _
  · show (0 : Nat) ≤ 122; omega
theorem timesEvery_f (s : ByteArray) (hs : s.size ≤ 70368744177664) (k r : Int) : impl_MakeEvery.f s k r = some (evr (chrs s) k r) := by unfold impl_MakeEvery.f; rw [if_pos hs]
theorem lawMakeTimesOver_ev (l : List Int) (h : ∀ x ∈ l, (Lit.int .u8 x).wf = true) : Ev (fun k => laws_FnMakeTimesOver.f k l) true := by
  by_cases hl : (l.length : Int) > 1048576
  · exact ⟨0, fun k _ => by dsimp only; unfold laws_FnMakeTimesOver.f; rw [if_pos hl]⟩
  · obtain ⟨s, n, hf, K1, h1⟩ := drawTimesOver_f l h
    dsimp only at h1
    have hz := hf.size
    have hs : s.size ≤ 70368744177664 := by omega
    obtain ⟨K2, h2⟩ := smakeTimes_f s hs n
    dsimp only at h2
    have h3 := makeTimes_f s hs n
    obtain ⟨K3, h5⟩ := isetTidy_f s hs
    dsimp only at h5
    have out : ∀ k b, laws_FnMakeTimesOver.j0 (k + 1) s n (tmr (chrs s) n).1 b (tmr (chrs s) n).1 b true = some true := by
      intro k b
      simp only [laws_FnMakeTimesOver.j0]
      rw [if_pos (by trivial), if_pos (by trivial), BEq.rfl]
    refine ⟨K1 + K2 + K3 + 1, fun k hk => ?_⟩
    obtain ⟨k, rfl, hk2⟩ := down1 hk
    dsimp only
    unfold laws_FnMakeTimesOver.f
    rw [if_neg hl, h1 (k + 1) (by omega), Option.bind_some]
    try dsimp only
    rw [h3, Option.bind_some, h2 (k + 1) (by omega), Option.bind_some, if_pos (by trivial), if_neg (bne_no _)]
    cases g1 : (tmr (chrs s) n).2 with
    | false => rw [if_neg (by decide)]; exact out k false
    | true =>
      rw [if_pos (by trivial)]
      by_cases hn : n < 1
      · rw [decide_eq_true hn]; exact out k true
      · rw [decide_eq_false hn]
        obtain ⟨e1, e2, e3⟩ := timesOver_eq g1 hn
        have z := timesOver_size (chrs s) n
        simp only [laws_FnMakeTimesOver.j0]
        rw [if_neg (by decide), makeOver_f _ (by omega), Option.bind_some, timesEvery_f _ (by omega), Option.bind_some, h5 k (by omega), Option.bind_some, e2, e3, if_pos e1, if_pos e1, if_pos (by trivial), if_pos e1, BEq.rfl]
theorem lawMakeTimesOver_pure : laws_FnMakeTimesOver.Pure := fun l _ _ h => (lawMakeTimesOver_ev l h).rounds
end Go.Proofs.Ytfoolgjofinmlaa.P

-- For every code the law FnMakeTimesOver holds.
namespace Go.Proofs.Ytfoolgjofinmlaa.Pure
theorem FnMakeTimesOver : Go.Proofs.Ytfoolgjofinmlaa.P.laws_FnMakeTimesOver.Pure := Go.Proofs.Ytfoolgjofinmlaa.P.lawMakeTimesOver_pure
end Go.Proofs.Ytfoolgjofinmlaa.Pure
